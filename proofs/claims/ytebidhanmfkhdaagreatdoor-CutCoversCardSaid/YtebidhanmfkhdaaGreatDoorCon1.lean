/- Part of the proof of: Whether any points are enough, and which of them go, is what the document says: for every input the law answers true. -/
import Derived.Shelf.Slices.In.SortNone
import Derived.Shelf.Sort.Plain
import Derived.Test.YtebidhanmfkhdaaGreatDoorCon0
set_option maxRecDepth 100000
set_option linter.unusedSectionVars false
set_option linter.unusedVariables false
set_option linter.unusedSimpArgs false
section
open Go
namespace Go.Ev
def Zab (t:List (El Za)) (i:Int):List Int:=listOf t.length (nextB t i)
def Zfl (t:List (El Za)) (i:Int):Bool:=flowOK t
theorem ZAJ {t:List (El Za)} {i:Int} (h:¬(0≤i∧i < (t.length:Int))):listOf t.length (nextB t i)=[]:=by
 unfold listOf
 rw[List.map_eq_nil_iff,List.filter_eq_nil_iff]
 intro j _ hb
 unfold nextB at hb
 rw[Bool.and_eq_true] at hb
 have:=of_decide_eq_true hb.1
 exact h ⟨this.1,this.2.1⟩
theorem ZLG (t:List (El Za)) (i:Int) (hk:Zfl t i=true):Goes (ZgA t i) (ZsX t i) (Zab t i):=by
 have hlen:=ZbC hk
 unfold ZsX Zab
 rw[Ze]
 by_cases h0:i < 0
 ·rw[if_pos (decide_eq_true h0),ZAJ (fun h=>by omega)];exact .leaf
 rw[if_neg (by simpa using h0),Ze]
 obtain ⟨j,rfl⟩:=Int.eq_ofNat_of_zero_le (show 0≤i by omega)
 by_cases h1:(t.length:Int)≤(j:Int)
 ·rw[if_pos (decide_eq_true (show (j:Int)≥Int.ofNat t.length from h1)),ZAJ (fun h=>by omega)];exact .leaf
 have hj:j < t.length:=by omega
 rw[if_neg (by simp;omega),Ze,if_pos (Zas hj),Ze,Int.toNat_natCast]
 rw[←ZMf hj]
 have hmem:t.getD j (dflt Za)∈t:=by rw[ZH hj];exact List.getElem_mem hj
 have kl:ZdN (t.getD j (dflt Za))=true:=ZNH (Zpn hk hmem)
 have kf:ZjP t (t.getD j (dflt Za)).2.2.2.2.2.1=true:=ZBS hk
 have vf:ZaZ t (t.getD j (dflt Za)).2.2.2.2.2.1=findI (t.getD j (dflt Za)).2.2.2.2.2.1 t 0:=rfl
 rw[if_pos kl]
 have hw:IntKind.i64.wrap ((j:Int)+1)=(j:Int)+1:=by rw[wrap_i64 (by omega) (by omega)]
 have l14:∀(to:Int) (out:List Int) (h:Bool),out.length≤3→Goes (ZgA t (j:Int)) (.jmp (.l14 to out h)) (out++if h=true then [to] else []):=by
  intro to out h ho
  rw[Zi,ZgA,Ze]
  cases h with
  | true=>
   rw[if_pos rfl,Ze,if_pos (Nat.ble_eq_true_of_le (by unfold limit;omega)),if_pos rfl];exact .leaf
  | false=>rw[if_neg (by decide),if_neg (by decide),List.append_nil];exact .leaf
 have last:∀(out:List Int) (x:Int),out.length≤1→(decide ((0:Int)≤IntKind.i64.wrap (Int.ofNat (out++[x]).length - 1))&&decide (IntKind.i64.wrap (Int.ofNat (out++[x]).length - 1) < Int.ofNat (out++[x]).length))=true∧List.getD (out++[x]) (IntKind.i64.wrap (Int.ofNat (out++[x]).length - 1)).toNat (dflt (.int .i64))=x:=by
  intro out x ho
  have e:IntKind.i64.wrap (Int.ofNat (out++[x]).length - 1)=(out.length:Int):=by
   rw[List.length_append,List.length_singleton,wrap_i64 (by simp <;> omega) (by simp <;> omega)]
   simp
  rw[e]
  refine ⟨by simp;omega,?_⟩
  rw[Int.toNat_natCast]
  simp[List.getD]
 have l12:∀(to:Int) (h:Bool), -1≤to→(h=true→(j:Int)+1 < t.length)→Goes (ZgA t (j:Int)) (.jmp (.l12 to (if 0≤to∧to≤(j:Int) then [to] else []) h)) (nextL t.length h to (j:Int)):=by
  intro to h hto hh
  rw[Zi,ZgA]
  unfold nextL
  generalize hout:(if 0≤to∧to≤(j:Int) then [to] else [])=out
  have hol:out.length≤1:=by rw[←hout];split <;> simp
  rw[Ze]
  cases h with
  | true=>
   rw[if_pos rfl,Ze,if_pos (Nat.ble_eq_true_of_le (by unfold limit;omega)),Ze,hw]
   have hin:=hh rfl
   obtain ⟨b1,b2⟩:=last out ((j:Int)+1) hol
   rw[if_pos (show true=true∧(j:Int)+1 < (t.length:Int) from ⟨rfl,hin⟩)]
   by_cases hgt:to > (j:Int)
   ·rw[if_pos (decide_eq_true hgt),Ze,if_neg (by simp;omega),Ze,if_pos b1,b2]
    have:=l14 to (out++[(j:Int)+1]) ((j:Int)+1 !=to) (by simp;omega)
    rw[List.append_assoc] at this
    by_cases he:to=(j:Int)+1
    ·rw[if_neg (by simp[he]),List.append_nil] at this
     rw[if_neg (fun h=>h.2 ⟨rfl,hin,he⟩),List.append_nil]
     exact this
    ·rw[if_pos (by simp;omega)] at this
     rw[if_pos ⟨hgt,fun h=>he h.2.2⟩]
     exact this
   ·rw[if_neg (by simpa using hgt),if_neg (fun h=>hgt h.1),List.append_nil]
    have:=l14 to (out++[(j:Int)+1]) false (by simp;omega)
    rwa[if_neg (by decide),List.append_nil] at this
  | false=>
   rw[if_neg (by decide),Ze,if_neg (c:=false=true∧(j:Int)+1 < (t.length:Int)) (fun h=>by cases h.1),List.nil_append]
   by_cases hgt:to > (j:Int)
   ·have he:out=[]:=by rw[←hout,if_neg (fun h=>by omega)]
    subst he
    rw[if_pos (decide_eq_true hgt),Ze,if_pos (show (Int.ofNat ([]:List Int).length==0)=true from rfl),if_pos ⟨hgt,fun h=>by cases h.1⟩]
    have:=l14 to [] true (by simp)
    rwa[if_pos rfl] at this
   ·rw[if_neg (by simpa using hgt),if_neg (fun h=>hgt h.1),List.append_nil]
    have:=l14 to out false (by omega)
    rwa[if_neg (by decide),List.append_nil] at this
 have key:∀(on:Bool) (to:Int),nextL t.length (bif on then decide ((j:Int)+1 < Int.ofNat t.length) else false) to (j:Int)=nextL t.length on to (j:Int):=by
  intro on to
  cases on with
  | false=>rfl
  | true=>
   show nextL t.length (decide ((j:Int)+1 < Int.ofNat t.length)) to (j:Int)=nextL t.length true to (j:Int)
   by_cases hin:(j:Int)+1 < (t.length:Int)
   ·rw[decide_eq_true (show (j:Int)+1 < Int.ofNat t.length from hin)]
   ·rw[decide_eq_false (show ¬(j:Int)+1 < Int.ofNat t.length from hin)]
    unfold nextL
    rw[if_neg (c:=false=true∧(j:Int)+1 < (t.length:Int)) (fun h=>by cases h.1),if_neg (c:=true=true∧(j:Int)+1 < (t.length:Int)) (fun h=>hin h.2)]
    by_cases hgt:to > (j:Int)
    ·rw[if_pos (c:=to > (j:Int)∧¬(false=true∧(j:Int)+1 < (t.length:Int)∧to=(j:Int)+1)) ⟨hgt,fun h=>by cases h.1⟩,if_pos (c:=to > (j:Int)∧¬(true=true∧(j:Int)+1 < (t.length:Int)∧to=(j:Int)+1)) ⟨hgt,fun h=>hin h.2.1⟩]
    ·rw[if_neg (c:=to > (j:Int)∧¬(false=true∧(j:Int)+1 < (t.length:Int)∧to=(j:Int)+1)) (fun h=>hgt h.1),if_neg (c:=to > (j:Int)∧¬(true=true∧(j:Int)+1 < (t.length:Int)∧to=(j:Int)+1)) (fun h=>hgt h.1)]
 have both:∀(on:Bool) (to:Int) (out:List Int), -1≤to→out=(if 0≤to∧to≤(j:Int) then [to] else [])→Goes (ZgA t (j:Int)) (.br on (.jmp (.l12 to out (decide (IntKind.i64.wrap ((j:Int)+1) < Int.ofNat t.length)))) (.jmp (.l12 to out false))) (nextL t.length on to (j:Int)):=by
  intro on to out hto hout
  subst hout
  rw[Ze,←key,hw]
  cases on with
  | true=>
   rw[if_pos rfl,cond_true]
   exact l12 to _ hto fun h=>of_decide_eq_true h
  | false=>
   rw[if_neg (by decide),cond_false]
   exact l12 to _ hto fun h=>by cases h
 have hr:= @ZLk t j
 rw[Ze]
 unfold onOf
 by_cases hjmp:(ZaJ (t.getD j (dflt Za))).2=true
 ·have hto:toOf t j=findI (t.getD j (dflt Za)).2.2.2.2.2.1 t 0:=by unfold toOf;rw[if_pos hjmp]
  rw[hto] at hr
  rw[if_pos hjmp,Ze,if_pos (Zas hj),Ze,if_pos kf,Ze,vf,hto]
  generalize findI (t.getD j (dflt Za)).2.2.2.2.2.1 t 0=to at hr
  by_cases h2:to≥0
  ·rw[if_pos (decide_eq_true h2),Ze]
   by_cases h3:to≤(j:Int)
   ·rw[if_pos (decide_eq_true h3)]
    exact both _ to _ hr.1 (by rw[if_pos ⟨h2,h3⟩])
   ·rw[if_neg (by simpa using h3)]
    exact both _ to _ hr.1 (by rw[if_neg (fun h=>h3 h.2)])
  ·rw[if_neg (by simpa using h2)]
   exact both _ to _ hr.1 (by rw[if_neg (fun h=>h2 h.1)])
 ·have hto:toOf t j= -1:=by unfold toOf;rw[if_neg hjmp]
  rw[if_neg hjmp,hto]
  exact both _ (-1) _ (by omega) (by rw[if_neg (fun h=>by omega)])
end Go.Ev
end

section
open Go Go.Ev
namespace Go.Ev
noncomputable section
noncomputable def ZuI:Run:=entG ZhE Zqm (fun a=>Zfl a.1 a.2.1) (fun a=>Zab a.1 a.2.1)
theorem Zyc:EntOK Go.Proofs.Tryz.prog 78 ZuI:=ZI (tb:=Zry) (c:=Zq1) ZJm (by kernel_rfl) (by kernel_rfl) (by kernel_rfl) (fun a=>by kernel_rfl) fun ⟨t,i,_⟩ hk=>Zl (c:=Zq1) (K:=fun v=>(Zqm v,tps (toForms ZhE (t,i,())))) (S:=Zg7 t i) (by kernel_rfl) (ZJc t i) (ZJr t i) (ZLG t i hk)
end
end Go.Ev
end

section
open Go Go.Ev
namespace Go.Ev
noncomputable section
noncomputable def ZsT:Tbl:=[]
theorem ZzB:∀p∈ZsT,EntOK Go.Proofs.Tryz.prog p.1 p.2:=Zt
noncomputable def ZAM:Code:=Go.Proofs.Tryz.f86.body.getD .skip
noncomputable def ZlK:Run:=entE Go.Proofs.Tryz.prog ZsT Go.Proofs.Tryz.f86 ZAM
theorem Zrb:EntOK Go.Proofs.Tryz.prog 86 ZlK:=ZLd ZzB (by kernel_rfl) (by kernel_rfl) (by kernel_rfl) (fun xs=>by kernel_rfl)
end
end Go.Ev
end

section
open Go Go.Ev
namespace Go.Ev
noncomputable section
def Zle:PSig:=[.obj 117 [(.d (.int .i64)),(.m (.int .i64) (.int .u64))],.dat false (.int .i64)]
noncomputable def ZnU:Tbl:=[(86,ZlK)]
theorem ZAP:∀p∈ZnU,EntOK Go.Proofs.Tryz.prog p.1 p.2:=Zg Zrb (Zt)
noncomputable def Zge:Code:=Go.Proofs.Tryz.f54.body.getD .skip
def Zlb:Tb:=[]
def Zui (s:Int×List (Int×Int)) (i:Int):Empty→JT Empty (Bool×Int×List (Int×Int)):=fun j=>nomatch j
def Zlg (s:Int×List (Int×Int)) (i:Int):JT Empty (Bool×Int×List (Int×Int)):=.br (decide (i≥(0:Int))) (.br (decide (i < s.1)) (.br (decide ((IntKind.u64.wrap (Int.tmod i (64:Int))) < (0:Int))) (.no) (.leaf (((bitAnd IntKind.u64 (Int.fdiv (Option.getD (mget (kt:=(.int .i64)) (IntKind.i64.wrap (Int.tdiv i (64:Int))) s.2) (0:Int)) (2 ^ (min (Int.toNat (IntKind.u64.wrap (Int.tmod i (64:Int)))) (IntKind.u64).bits))) (1:Int))==(1:Int)),s))) (.leaf (false,s))) (.leaf (false,s))
def Zgi:Bool×Int×List (Int×Int)→Ans:=fun (r:Bool×Int×List (Int×Int))=>(.d .bool r.1,[.bx 117 [.d (.int .i64) r.2.1,.mv (.int .i64) (.int .u64) r.2.2],.top])
def ZcT (s:Int×List (Int×Int)) (i:Int):Empty→Nat×St:=fun j=>nomatch j
theorem ZBF (s:Int×List (Int×Int)) (i:Int) (L:Lt):entryA Go.Proofs.Tryz.prog (clOf ZnU) Zlb Go.Proofs.Tryz.f54 Zge L (toPs Zle (s,i,()))=(Zlg s i).run (fun v=>some (Zgi v)) fun j=>L (ZcT s i j).1 (ZcT s i j).2:=by kernel_rfl
theorem ZBW (s:Int×List (Int×Int)) (i:Int):∀(L:Lt) (j:Empty),procOf (procsF Go.Proofs.Tryz.prog (clOf ZnU) Zlb Go.Proofs.Tryz.f54 Zge (toPs Zle (s,i,()))) (ZcT s i j).1 L (ZcT s i j).2=(Zui s i j).run (fun v=>some (Zgi v)) fun j=>L (ZcT s i j).1 (ZcT s i j).2:=fun L j=>nomatch j
end
end Go.Ev
end

section
open Go
namespace Go.Ev
def Zq (s:Int×List (Int×Int)) (i:Int):Bool×Int×List (Int×Int):=(hasS s i,s)
theorem ZCQ (s:Int×List (Int×Int)) (i:Int):Goes (Zui s i) (Zlg s i) (Zq s i):=by
 unfold Zlg Zq hasS
 rw[Ze]
 by_cases h0:i≥0
 ·rw[if_pos (decide_eq_true h0),Ze,decide_eq_true h0,Bool.true_and]
  by_cases h1:i < s.1
  ·rw[if_pos (decide_eq_true h1),Ze,if_neg (by rw[Zyq];decide),decide_eq_true h1,Bool.true_and]
   exact .leaf
  ·rw[if_neg (by simpa using h1),decide_eq_false h1,Bool.false_and]
   exact .leaf
 ·rw[if_neg (by simpa using h0),decide_eq_false h0,Bool.false_and]
  exact .leaf
end Go.Ev
end

section
open Go Go.Ev
namespace Go.Ev
noncomputable section
noncomputable def Zgr:Run:=entO Zle Zgi (fun a=>true) (fun a=>Zq a.1 a.2.1)
theorem Zfe:EntOK Go.Proofs.Tryz.prog 54 Zgr:=ZLD (tb:=Zlb) (c:=Zge) (Zqy (Zi7 (fn:=Go.Proofs.Tryz.f54) (c:=Zge) (by kernel_rfl) (by kernel_rfl) (by kernel_rfl))) ZAP (by kernel_rfl) (by kernel_rfl) (fun a=>by kernel_rfl) fun ⟨s,i,_⟩ hk=>Zl (c:=Zge) (K:=Zgi) (S:=ZcT s i) (by kernel_rfl) (ZBF s i) (ZBW s i) (ZCQ s i)
end
end Go.Ev
end

section
open Go Go.Ev
namespace Go.Ev
noncomputable section
def Zmb:PSig:=[.obj 117 [(.d (.int .i64)),(.m (.int .i64) (.int .u64))],.dat false (.int .i64)]
noncomputable def Zoh:Tbl:=[(86,ZlK),(54,Zgr)]
theorem ZBX:∀p∈Zoh,EntOK Go.Proofs.Tryz.prog p.1 p.2:=Zg Zrb (Zg Zfe (Zt))
noncomputable def Zgs:Code:=Go.Proofs.Tryz.f53.body.getD .skip
def Zlz:Tb:=[]
def Zuh (s:Int×List (Int×Int)) (i:Int):Empty→JT Empty (Bool×Int×List (Int×Int)):=fun j=>nomatch j
def ZlZ (s:Int×List (Int×Int)) (i:Int):JT Empty (Bool×Int×List (Int×Int)):=.br (decide (i < (0:Int))) (.leaf (false,s)) (.br (decide (i≥s.1)) (.leaf (false,s)) (.br (Zq s i).1 (.leaf (false,(Zq s i).2)) (.br (decide ((IntKind.u64.wrap (Int.tmod i (64:Int))) < (0:Int))) (.no) (.leaf (true,((Zq s i).2.1,(mput (kt:=(.int .i64)) (IntKind.i64.wrap (Int.tdiv i (64:Int))) (bitOr IntKind.u64 (Option.getD (mget (kt:=(.int .i64)) (IntKind.i64.wrap (Int.tdiv i (64:Int))) (Zq s i).2.2) (0:Int)) (IntKind.u64.wrap ((1:Int)*(2 ^ (min (Int.toNat (IntKind.u64.wrap (Int.tmod i (64:Int)))) (IntKind.u64).bits))))) (Zq s i).2.2)))))))
def Zgl:Bool×Int×List (Int×Int)→Ans:=fun (r:Bool×Int×List (Int×Int))=>(.d .bool r.1,[.bx 117 [.d (.int .i64) r.2.1,.mv (.int .i64) (.int .u64) r.2.2],.top])
def Zc2 (s:Int×List (Int×Int)) (i:Int):Empty→Nat×St:=fun j=>nomatch j
theorem ZB2 (s:Int×List (Int×Int)) (i:Int) (L:Lt):entryA Go.Proofs.Tryz.prog (clOf Zoh) Zlz Go.Proofs.Tryz.f53 Zgs L (toPs Zmb (s,i,()))=(ZlZ s i).run (fun v=>some (Zgl v)) fun j=>L (Zc2 s i j).1 (Zc2 s i j).2:=by kernel_rfl
theorem ZBI (s:Int×List (Int×Int)) (i:Int):∀(L:Lt) (j:Empty),procOf (procsF Go.Proofs.Tryz.prog (clOf Zoh) Zlz Go.Proofs.Tryz.f53 Zgs (toPs Zmb (s,i,()))) (Zc2 s i j).1 L (Zc2 s i j).2=(Zuh s i j).run (fun v=>some (Zgl v)) fun j=>L (Zc2 s i j).1 (Zc2 s i j).2:=fun L j=>nomatch j
end
end Go.Ev
end

section
open Go
namespace Go.Ev
def Zp (s:Int×List (Int×Int)) (i:Int):Bool×Int×List (Int×Int):=putS s i
theorem ZCD (s:Int×List (Int×Int)) (i:Int):Goes (Zuh s i) (ZlZ s i) (Zp s i):=by
 unfold ZlZ Zp putS
 simp only[Zq]
 rw[Ze]
 by_cases h0:i < 0
 ·rw[if_pos (decide_eq_true h0),if_pos (.inl h0)];exact .leaf
 ·rw[if_neg (by simpa using h0),Ze]
  by_cases h1:i≥s.1
  ·rw[if_pos (decide_eq_true h1),if_pos (.inr (.inl h1))];exact .leaf
  ·rw[if_neg (by simpa using h1),Ze]
   by_cases h2:hasS s i=true
   ·rw[if_pos h2,if_pos (.inr (.inr h2))];exact .leaf
   ·rw[if_neg h2,Ze,if_neg (by rw[Zyq];decide),if_neg (by intro h;rcases h with h | h | h <;> first | exact h0 h | exact h1 h | exact h2 h)]
    exact .leaf
end Go.Ev
end

section
open Go Go.Ev
namespace Go.Ev
noncomputable section
noncomputable def ZcW:Run:=entO Zmb Zgl (fun a=>true) (fun a=>Zp a.1 a.2.1)
theorem Zce:EntOK Go.Proofs.Tryz.prog 53 ZcW:=ZLD (tb:=Zlz) (c:=Zgs) (Zqy (Zi7 (fn:=Go.Proofs.Tryz.f53) (c:=Zgs) (by kernel_rfl) (by kernel_rfl) (by kernel_rfl))) ZBX (by kernel_rfl) (by kernel_rfl) (fun a=>by kernel_rfl) fun ⟨s,i,_⟩ hk=>Zl (c:=Zgs) (K:=Zgl) (S:=Zc2 s i) (by kernel_rfl) (ZB2 s i) (ZBI s i) (ZCD s i)
end
end Go.Ev
end

section
open Go Go.Ev
namespace Go.Ev
noncomputable section
def Zeu:PSig:=[.obj 117 [(.d (.int .i64)),(.m (.int .i64) (.int .u64))]]
noncomputable def ZoK:Tbl:=[]
noncomputable def ZiN:Code:=match Go.Proofs.Tryz.f80.body with | some (.seq _ (.seq _ (.seq _ (.seq _ (.seq _ d)))))=>d | _=>.skip
def Zbk:Tb:=[(2,⟨[0,4,26,27,28],[(5,46)]⟩),(8,⟨[0,4,7,8,26,27,28],[(5,46)]⟩)]
inductive Zdb where | l2 (h:Int) (h1:List Int) (h2:Int) (out:List Int) | l8 (k:Int) (h:Int) (h1:List Int) (i:Int) (out:List Int) (h2:Int)
def ZaS (s:Int×List (Int×Int)) (places:List Int):Zdb→JT Zdb ((List Int)×Int×List (Int×Int)) |.l2 h h1 h2 out=>.br (decide (h2 < h)) (.br ((decide ((0:Int)≤h2))&&(decide (h2 < (Int.ofNat (List.length h1))))) (.jmp (.l8 (List.getD h1 (Int.toNat h2) (dflt (.int .i64))) h h1 (0:Int) out h2)) (.no)) (.leaf (out,s)) |.l8 k h h1 i out h2=>.br (decide (i < (64:Int))) (.br (decide ((IntKind.u64.wrap i) < (0:Int))) (.no) (.br ((bitAnd IntKind.u64 (Int.fdiv (Option.getD (mget (kt:=(.int .i64)) k s.2) (0:Int)) (2 ^ (min (Int.toNat (IntKind.u64.wrap i)) (IntKind.u64).bits))) (1:Int))==(1:Int)) (.br (Nat.ble (((List.length out)+1)*8) limit) (.jmp (.l8 k h h1 (IntKind.i64.wrap (i+(1:Int))) (out++[(IntKind.i64.wrap ((IntKind.i64.wrap (k*(64:Int)))+i))]) h2)) (.no)) (.jmp (.l8 k h h1 (IntKind.i64.wrap (i+(1:Int))) out h2)))) (.jmp (.l2 h h1 (IntKind.i64.wrap (h2+(1:Int))) out))
def ZhM (s:Int×List (Int×Int)) (places:List Int):JT Zdb ((List Int)×Int×List (Int×Int)):=.jmp (.l2 (Int.ofNat (List.length places)) places (0:Int) [])
def ZiB:(List Int)×Int×List (Int×Int)→Ans:=fun (r:(List Int)×Int×List (Int×Int))=>(.rw 3 (.int .i64) r.1,[.bx 117 [.d (.int .i64) r.2.1,.mv (.int .i64) (.int .u64) r.2.2]])
def Zca (s:Int×List (Int×Int)) (places:List Int):Zdb→Nat×St |.l2 h h1 h2 out=>(2,⟨mkTm 56 [(0,.pt 1 0 0),(4,.own 5 0 none),(26,.own 27 0 none),(27,.d (.int .i64) h),(28,.d (.int .i64) h2)],[(1,0,.box 117 [.d (.int .i64) s.1,.mp 1026 0] (some 0)),(5,0,.row 3 (.int .i64) out false),(27,0,.row 3 (.int .i64) h1 false),(1026,0,.map (.int .i64) (.int .u64) s.2)]⟩) |.l8 k h h1 i out h2=>(8,⟨mkTm 56 [(0,.pt 1 0 0),(4,.own 5 0 none),(7,.d (.int .i64) k),(8,.d (.int .i64) i),(26,.own 27 0 none),(27,.d (.int .i64) h),(28,.d (.int .i64) h2)],[(1,0,.box 117 [.d (.int .i64) s.1,.mp 1026 0] (some 0)),(5,0,.row 3 (.int .i64) out false),(27,0,.row 3 (.int .i64) h1 false),(1026,0,.map (.int .i64) (.int .u64) s.2)]⟩)
def Zet (s:Int×List (Int×Int)) (places:List Int):St:=⟨mkTm 56 [(0,.pt 1 0 0),(3,.own 4 0 none),(4,.nil)],[(1,0,.box 117 [.d (.int .i64) s.1,.mp 1026 0] (some 0)),(4,0,.row 3 (.int .i64) places false),(1026,0,.map (.int .i64) (.int .u64) s.2)]⟩
theorem Zv0 (s:Int×List (Int×Int)) (places:List Int) (L:Lt):evC Go.Proofs.Tryz.prog (clOf ZoK) Zbk L ZiN 0 (finA Go.Proofs.Tryz.prog Zbk Go.Proofs.Tryz.f80 (toPs Zeu (s,()))) (fun _ _=>none) (finA Go.Proofs.Tryz.prog Zbk Go.Proofs.Tryz.f80 (toPs Zeu (s,()))) (Zet s places)=(ZhM s places).run (fun v=>some (ZiB v)) fun j=>L (Zca s places j).1 (Zca s places j).2:=by kernel_rfl
noncomputable def ZmE (s:Int×List (Int×Int)) (places:List Int):List (Nat×(Lt→Kt)):=procs Go.Proofs.Tryz.prog (clOf ZoK) Zbk ZiN 0 (fun _=>(finA Go.Proofs.Tryz.prog Zbk Go.Proofs.Tryz.f80 (toPs Zeu (s,())))) (fun _ _ _=>none) (fun _=>(finA Go.Proofs.Tryz.prog Zbk Go.Proofs.Tryz.f80 (toPs Zeu (s,()))))
theorem ZwT (s:Int×List (Int×Int)) (places:List Int):∀(L:Lt) (j:Zdb),procOf (ZmE s places) (Zca s places j).1 L (Zca s places j).2=(ZaS s places j).run (fun v=>some (ZiB v)) fun j=>L (Zca s places j).1 (Zca s places j).2 | L,.l2 h h1 h2 out=>by kernel_rfl | L,.l8 k h h1 i out h2=>by kernel_rfl
end
end Go.Ev
end

section
open Go
namespace Go.Ev
theorem Zx0 (s:Int×List (Int×Int)) (places:List Int) (hk:Nat.ble (places.length*512) limit=true):Goes (ZaS s places) (ZhM s places) (listAt s.2 places,s):=by
 have hlim:places.length*512≤limit:=Nat.le_of_ble_eq_true hk
 have hn:places.length < 4611686018427387904:=by unfold limit at hlim;omega
 have inner:∀(k:Int) (j:Nat),j < places.length→∀(i:Nat),i≤64→∀(out:List Int) r,(out.length+(64 - i))*8≤limit→
   Goes (ZaS s places) (.jmp (.l2 (Int.ofNat (List.length places)) places ((j+1:Nat):Int) (out++wordList s.2 k i (64 - i)))) r→
   Goes (ZaS s places) (.jmp (.l8 k (Int.ofNat (List.length places)) places (i:Int) out (j:Int))) r:=by
  intro k j hj
  refine down ?_ fun i hi ih=>?_
  ·intro out r _ h
   rw[Zi]
   have e:decide (((64:Nat):Int) < (64:Int))=false:=by decide
   simp only[ZaS,Ze,e,Bool.false_eq_true,if_false,Zo (k:=j) (by omega)]
   simpa[wordList] using h
  ·intro out r hl h
   rw[Zi]
   have e:decide ((i:Int) < (64:Int))=true:=decide_eq_true (by omega)
   have hw:=ZuJ hi
   have e2:decide ((i:Int) < (0:Int))=false:=decide_eq_false (by omega)
   have hcons:wordList s.2 k i (64 - i)=(if bitE (wordAt s.2 k) (i:Nat) then [numE k (i:Nat)] else [])++wordList s.2 k (i+1) (64 - (i+1)):=by
    unfold wordList
    rw[show 64 - i=(64 - (i+1))+1 by omega,List.range'_succ,List.filter_cons]
    split <;> simp
   rw[hcons] at h
   have hb:((bitAnd IntKind.u64 (Int.fdiv (Option.getD (mget (kt:=(.int .i64)) k s.2) (0:Int)) (2 ^ (min (Int.toNat (IntKind.u64.wrap (i:Int))) (IntKind.u64).bits))) (1:Int))==(1:Int))=bitE (wordAt s.2 k) (i:Nat):=rfl
   unfold ZaS
   rw[Ze,if_pos e,Ze,if_neg (by rw[hw,e2];decide),Ze,hb,Zo (k:=i) (by omega)]
   by_cases hbit:bitE (wordAt s.2 k) (i:Nat)=true
   ·rw[if_pos hbit]
    rw[if_pos hbit] at h
    rw[Ze,if_pos (Nat.ble_eq_true_of_le (by omega))]
    refine ih (out++[numE k (i:Nat)]) r (by simp;omega) ?_
    simpa using h
   ·rw[if_neg hbit]
    rw[if_neg hbit,List.nil_append] at h
    exact ih out r (by omega) h
 have outer:∀j,j≤places.length→∀out:List Int,(out.length+(places.length - j)*64)*8≤limit→
   Goes (ZaS s places) (.jmp (.l2 (Int.ofNat (List.length places)) places (j:Int) out)) (out++listAt s.2 (places.drop j),s):=by
  refine down ?_ fun j hj ih=>?_
  ·intro out _
   rw[Zi]
   simp only[ZaS,Ze,Zv (Nat.lt_irrefl _),List.drop_length,Bool.false_eq_true,if_false]
   rw[show out++listAt s.2 []=out by simp[listAt]]
   exact .leaf
  ·intro out hl
   rw[Zi,ZN hj]
   simp only[ZaS,Ze,ZO hj,nng,Bool.and_self,if_true,Int.toNat_natCast,ZH hj]
   have hwl:=ZAi s.2 places[j] 0 64
   refine inner places[j] j hj 0 (by omega) out _ (by omega) ?_
   have:=ih (out++wordList s.2 places[j] 0 64) (by rw[List.length_append];omega)
   rw[show out++listAt s.2 (places[j] :: places.drop (j+1))=(out++wordList s.2 places[j] 0 64)++listAt s.2 (places.drop (j+1)) by simp only[listAt,List.flatMap_cons,List.append_assoc]]
   exact this
 have:=outer 0 (Nat.zero_le _) [] (by simp;omega)
 simpa[ZhM] using this
end Go.Ev
end

section
open Go Go.Ev
namespace Go.Ev
def renSort:Go.Shelf.Ren:=⟨fun n=>if n=189 then 74 else if n=125 then 104 else if n=257 then 103 else if n=128 then 130 else if n=129 then 131 else if n=294 then 122 else if n=295 then 123 else if n=296 then 124 else if n=297 then 125 else if n=298 then 126 else if n=299 then 127 else if n=216 then 81 else if n=300 then 128 else if n=301 then 129 else if n=328 then 140 else if n=329 then 141 else if n=330 then 142 else if n=331 then 143 else if n=332 then 144 else if n=215 then 114 else if n=343 then 153 else n,
 fun n=>if n=28 then 23 else if n=46 then 111 else if n=51 then 143 else if n=53 then 119 else if n=183 then 137 else if n=182 then 136 else if n=131 then 80 else if n=218 then 158 else if n=222 then 162 else if n=228 then 174 else if n=229 then 148 else n,
 fun n=>n⟩
theorem ZyB:Go.Proofs.Lays.n189 Go.Proofs.Tryz.prog renSort where
 mixed:=by kernel_rfl
 f125:=by kernel_rfl
 f128:=by kernel_rfl
 f129:=by kernel_rfl
 f189:=by kernel_rfl
 f215:=by kernel_rfl
 f216:=by kernel_rfl
 f257:=by kernel_rfl
 f294:=by kernel_rfl
 f295:=by kernel_rfl
 f296:=by kernel_rfl
 f297:=by kernel_rfl
 f298:=by kernel_rfl
 f299:=by kernel_rfl
 f300:=by kernel_rfl
 f301:=by kernel_rfl
 f328:=by kernel_rfl
 f329:=by kernel_rfl
 f330:=by kernel_rfl
 f331:=by kernel_rfl
 f332:=by kernel_rfl
 f343:=by kernel_rfl
 t0:=by kernel_rfl
 a0:=fun w=>by kernel_rfl
 z0:=fun w=>by kernel_rfl
 v0:=fun w=>by kernel_rfl
 t3:=by kernel_rfl
 a3:=fun w=>by kernel_rfl
 z3:=fun w=>by kernel_rfl
 v3:=fun w=>by kernel_rfl
 t4:=by kernel_rfl
 a4:=fun w=>by kernel_rfl
 z4:=fun w=>by kernel_rfl
 v4:=fun w=>by kernel_rfl
 t5:=by kernel_rfl
 a5:=fun w=>by kernel_rfl
 z5:=fun w=>by kernel_rfl
 v5:=fun w=>by kernel_rfl
 t9:=by kernel_rfl
 a9:=fun w=>by kernel_rfl
 z9:=fun w=>by kernel_rfl
 v9:=fun w=>by kernel_rfl
 t28:=by kernel_rfl
 a28:=fun w=>by kernel_rfl
 z28:=fun w=>by kernel_rfl
 v28:=fun w=>by kernel_rfl
 t46:=by kernel_rfl
 a46:=fun w=>by kernel_rfl
 z46:=fun w=>by kernel_rfl
 v46:=fun w=>by kernel_rfl
 t51:=by kernel_rfl
 a51:=fun w=>by kernel_rfl
 z51:=fun w=>by kernel_rfl
 v51:=fun w=>by kernel_rfl
 t53:=by kernel_rfl
 a53:=fun w=>by kernel_rfl
 z53:=fun w=>by kernel_rfl
 v53:=fun w=>by kernel_rfl
 t131:=by kernel_rfl
 a131:=fun w=>by kernel_rfl
 z131:=fun w=>by kernel_rfl
 v131:=fun w=>by kernel_rfl
 t182:=by kernel_rfl
 a182:=fun w=>by kernel_rfl
 z182:=fun w=>by kernel_rfl
 v182:=fun w=>by kernel_rfl
 t183:=by kernel_rfl
 a183:=fun w=>by kernel_rfl
 z183:=fun w=>by kernel_rfl
 v183:=fun w=>by kernel_rfl
 t218:=by kernel_rfl
 a218:=fun w=>by kernel_rfl
 z218:=fun w=>by kernel_rfl
 v218:=fun w=>by kernel_rfl
 t222:=by kernel_rfl
 a222:=fun w=>by kernel_rfl
 z222:=fun w=>by kernel_rfl
 v222:=fun w=>by kernel_rfl
 t228:=by kernel_rfl
 a228:=fun w=>by kernel_rfl
 z228:=fun w=>by kernel_rfl
 v228:=fun w=>by kernel_rfl
 t229:=by kernel_rfl
 a229:=fun w=>by kernel_rfl
 z229:=fun w=>by kernel_rfl
 v229:=fun w=>by kernel_rfl
theorem sortOK:SortOK Go.Proofs.Tryz.prog 74:=⟨fun blk off cap zs w h1 h2 h3=>Go.Proofs.Any.slices_Sort_int ZyB blk off cap zs w h1 h2 h3,fun p cap w=>Go.Proofs.Any.slices_Sort_int_none ZyB p cap w⟩
end Go.Ev
end

section
open Go Go.Ev
namespace Go.Ev
def Zrj:PSig:=[.obj 117 [(.d (.int .i64)),(.m (.int .i64) (.int .u64))]]
def ZbP (s:Int×List (Int×Int)):(List Int)×Int×List (Int×Int):=(listS s,s)
def Zbm (s:Int×List (Int×Int)):Bool:=Nat.ble (s.2.length*512) limit
def ZrE:(List Int)×Int×List (Int×Int)→Ans:=ZiB
section
abbrev SetL:=List (El (.int .i64)×El (.int .u64))
noncomputable def setListBody:Code:=Go.Proofs.Tryz.f80.body.getD .skip
noncomputable def setListR:Code:=fstC (sndC (sndC (sndC setListBody)))
noncomputable def setListX:RangeText:=rangeText (sndC setListR)
noncomputable def setListSort:Code:=fstC (sndC (sndC (sndC (sndC setListBody))))
def setLab1:Lab:=⟨[0,3,4],[]⟩
def setLab2:Lab:=⟨[0,3,4,15],[(4,46)]⟩
def setObs (s:Int×SetL) (ps:List (El (.int .i64))):List (Id×Nat×Obj):=[(1,0,.box 117 [.d (.int .i64) s.1,.mp 1026 0] (some 0)),(4,0,.row 3 (.int .i64) ps false),(1026,0,.gone (some 1000))]
def setK (s:Int×SetL) (v:Value) (ps:List (El (.int .i64))):St:=⟨mkTm 56 [(0,.pt 1 0 0),(3,.own 4 0 none),(4,.nil),(15,.cst v)],setObs s ps⟩
def setI (s:Int×SetL) (v:Value) (done:SetL):St:=setK s v (done.map Prod.fst)
def setT (s:Int×SetL) (v:Value) (done:SetL) (e:El (.int .i64)×El (.int .u64)):St:=((setI s v done).put (some 16) (.tu [mkB true,.d (.int .i64) e.1,.d (.int .u64) e.2])).put (some 17) (mkB true)
def setU (s:Int×SetL) (v:Value) (done:SetL) (e:El (.int .i64)×El (.int .u64)):St:=(((setT s v done e).put (some 18) (.tu [.d (.int .i64) e.1,.d (.int .u64) e.2])).put (some 19) (.d (.int .i64) e.1)).put (some 5) (.d (.int .i64) e.1)
def setE (s:Int×SetL) (v:Value) (done:SetL):St:=((setI s v done).put (some 16) (.tu [mkB false])).put (some 17) (mkB false)
def setA (s:Int×SetL):St:=⟨mkTm 56 [(0,.pt 1 0 0)],[(1,0,.box 117 [.d (.int .i64) s.1,.mp 1026 0] (some 0)),(1026,0,.map (.int .i64) (.int .u64) s.2)]⟩
def setC (s:Int×SetL):St:=⟨mkTm 56 [(0,.pt 1 0 0),(3,.nil),(4,.nil)],[(1,0,.box 117 [.d (.int .i64) s.1,.mp 1026 0] (some 0)),(1026,0,.map (.int .i64) (.int .u64) s.2)]⟩
def setM (s:Int×SetL):St:=((((setC s).put (some 11) (.pt 1 0 0)).put (some 12) (.pt 1 0 0)).put (some 13) (.pt 1 0 1)).put (some 14) (.mp 1026 0)
theorem ZKu:setListX.OK:=⟨by kernel_rfl,by kernel_rfl,by kernel_rfl,by kernel_rfl,by kernel_rfl,by kernel_rfl,by kernel_rfl,by kernel_rfl,by kernel_rfl⟩
theorem ZGn (s:Int×SetL) (v:Value) (done:SetL) (e:El (.int .i64)×El (.int .u64)) (L:Lt) (k:Kt) (x:Nat→Kt) (r:Kt):
  evC Go.Proofs.Tryz.prog (clOf []) [] L setListX.cr 0 (fun t=>k (norm Go.Proofs.Tryz.prog setLab2 t)) x r (setU s v done e)=bif Nat.ble (((done.map Prod.fst).length+1)*8) limit then k (setK s v (done.map Prod.fst++[e.1])) else none:=by kernel_rfl
theorem ZMQ (s:Int×SetL) (hk:Zbm s=true):RangeEv Go.Proofs.Tryz.prog (clOf []) setListX s.2 setLab2 1026 1000 (setI s) (setE s) (setT s) (setU s) where
 it:=fun v done=>by kernel_rfl
 r1:=fun v done e k=>by kernel_rfl
 rt:=fun v done e=>by kernel_rfl
 re:=fun v done e=>by kernel_rfl
 r2:=fun v done e k=>by kernel_rfl
 r3:=fun v done e rest hp L k x r=>by
  have hl:=hp.length_eq
  simp only[List.length_append,List.length_cons] at hl
  have hlim:s.2.length*512≤limit:=Nat.le_of_ble_eq_true hk
  rw[ZGn,List.length_map,Nat.ble_eq_true_of_le (by omega),cond_true]
  unfold setI
  rw[List.map_append]
  rfl
 f1:=fun v done k=>by kernel_rfl
 ft:=fun v done=>by kernel_rfl
theorem ZIt:setListBody=.seq (fstC setListBody) (.seq (fstC (sndC setListBody)) (.seq (fstC (sndC (sndC setListBody))) (.seq (.seq (.region (ridC (fstC setListR)) (ropsC (fstC setListR)) false) setListX.code) (.seq (.region (ridC setListSort) (ropsC setListSort) false) ZiN)))):=by kernel_rfl
theorem ZOJ (s:Int×SetL) (L:Lt) (k:Kt) (x:Nat→Kt) (r:Kt):evC Go.Proofs.Tryz.prog (clOf []) [] L (fstC setListBody) 0 (fun t=>k (norm Go.Proofs.Tryz.prog setLab1 t)) x r (setA s)=k (setA s):=by kernel_rfl
theorem ZNG (s:Int×SetL) (L:Lt) (k:Kt) (x:Nat→Kt) (r:Kt):evC Go.Proofs.Tryz.prog (clOf []) [] L (fstC (sndC setListBody)) 0 (fun t=>k (norm Go.Proofs.Tryz.prog setLab1 t)) x r (setA s)=k (setA s):=by kernel_rfl
theorem ZOa (s:Int×SetL) (L:Lt) (k:Kt) (x:Nat→Kt) (r:Kt):evC Go.Proofs.Tryz.prog (clOf []) [] L (fstC (sndC (sndC setListBody))) 0 (fun t=>k (norm Go.Proofs.Tryz.prog setLab1 t)) x r (setA s)=k (setC s):=by kernel_rfl
def mapKV (P:Program) (T:TypeId):TypeId×TypeId:=match P.underlying T with | some (.map K V)=>(K,V) | _=>(0,0)
theorem ZtZ (s:Int×SetL) (hk:Zbm s=true):CallOK Go.Proofs.Tryz.prog 80 (toPs Zrj (s,())) (ZrE (ZbP s)):=by
 obtain ⟨hcl,hdet⟩:=Zp1 (P:=Go.Proofs.Tryz.prog) Zt
 have hlim:s.2.length*512≤limit:=Nat.le_of_ble_eq_true hk
 refine Znj (tb:=Zbk) (fn:=Go.Proofs.Tryz.f80) (c:=setListBody) (vs:=[.pt 1 0 0]) (st:=⟨[],[(1,0,.box 117 [.d (.int .i64) s.1,.mp 1026 0] (some 0)),(1026,0,.map (.int .i64) (.int .u64) s.2)]⟩) (by kernel_rfl) (by kernel_rfl) (by kernel_rfl) ?_
 intro _ Mod F0 w0 a w hr
 have hr:Rel Mod F0 w0 (setA s) a w:=hr
 rw[ZIt]
 refine wp_seq (piece hcl hdet (norm Go.Proofs.Tryz.prog setLab1) (fun h=>Z1 h) (ZOJ s) hr fun a w hr=>?_)
 refine wp_seq (piece hcl hdet (norm Go.Proofs.Tryz.prog setLab1) (fun h=>Z1 h) (ZNG s) hr fun a w hr=>?_)
 refine wp_seq (piece hcl hdet (norm Go.Proofs.Tryz.prog setLab1) (fun h=>Z1 h) (ZOa s) hr fun a w hr=>?_)
 refine wp_seq (wp_seq (wp_region ?_))
 rw[show List.range (ropsC (fstC setListR)).size=[0,1,2,3,4] from by kernel_rfl]
 refine evOp hcl (o:=opC (fstC setListR) 0) (st1:=(setC s).put (some 11) (.pt 1 0 0)) (by kernel_rfl) (by kernel_rfl) (fun k=>by kernel_rfl) hr fun a w hr=>?_
 refine evOp hcl (o:=opC (fstC setListR) 1) (st1:=((setC s).put (some 11) (.pt 1 0 0)).put (some 12) (.pt 1 0 0)) (by kernel_rfl) (by kernel_rfl) (fun k=>by kernel_rfl) hr fun a w hr=>?_
 refine evOp hcl (o:=opC (fstC setListR) 2) (st1:=(((setC s).put (some 11) (.pt 1 0 0)).put (some 12) (.pt 1 0 0)).put (some 13) (.pt 1 0 1)) (by kernel_rfl) (by kernel_rfl) (fun k=>by kernel_rfl) hr fun a w hr=>?_
 refine evOp hcl (o:=opC (fstC setListR) 3) (st1:=setM s) (by kernel_rfl) (by kernel_rfl) (fun k=>by kernel_rfl) hr fun a w hr=>?_
 refine handOp (o:=opC (fstC setListR) 4) (by kernel_rfl) (by kernel_rfl) ?_
 refine rangeLoop (tm:=14) (idm0:=1026) (ver0:=0) (T:=(match (opC (fstC setListR) 4).op with |.range T _=>T | _=>0)) (K:=(mapKV Go.Proofs.Tryz.prog (match (opC (fstC setListR) 4).op with |.range T _=>T | _=>0)).1) (V:=(mapKV Go.Proofs.Tryz.prog (match (opC (fstC setListR) 4).op with |.range T _=>T | _=>0)).2)
  hcl hdet ZKu rfl rfl (ZMQ s hk) (by kernel_rfl) (by kernel_rfl) (by kernel_rfl) (by kernel_rfl) (by kernel_rfl) (by kernel_rfl) (fun v=>by kernel_rfl) (fun v done=>by kernel_rfl) (fun v done=>by kernel_rfl) hr ?_
 intro v done a w hperm hr
 have hr:Rel Mod F0 w0 (Zet s (done.map Prod.fst)) a w:=Z1 (P:=Go.Proofs.Tryz.prog) (lab:=setLab1) hr
 refine wp_seq (wp_region ?_)
 rw[show List.range (ropsC setListSort).size=[0,1] from by kernel_rfl]
 refine evOp hcl (o:=opC setListSort 0) (st1:=(Zet s (done.map Prod.fst)).put (some 24) (.own 4 0 none)) (by kernel_rfl) (by kernel_rfl) (fun k=>by kernel_rfl) hr fun a w hr=>?_
 refine handOp (o:=opC setListSort 1) (by kernel_rfl) (by kernel_rfl) ?_
 refine sortStep (ts:=24) (id:=4) (ver:=0) (E:=3) (l:=done.map Prod.fst) (c:=(match (opC setListSort 1).op with |.call c=>c | _=>default)) (fn:=Go.Proofs.Tryz.f74) (body:=Go.Proofs.Tryz.f74.body.getD .skip) (by kernel_rfl) (by kernel_rfl) (by kernel_rfl) (by kernel_rfl) (by kernel_rfl) (by kernel_rfl) (by kernel_rfl) (by kernel_rfl) sortOK (by
  rw[List.length_map,hperm.length_eq]
  unfold limit at hlim
  omega) hr fun a w hr=>?_
 have hr:Rel Mod F0 w0 (Zet s (sorted (done.map Prod.fst))) a w:=Z1 (P:=Go.Proofs.Tryz.prog) (lab:=setLab1) hr
 rw[ZK9 (hperm.map Prod.fst)] at hr
 have hg:=Zx0 s (sorted (s.2.map Prod.fst)) (by rw[List.length_mergeSort,List.length_map];exact hk)
 exact tailStep hcl hdet (ps:=ZmE s (sorted (s.2.map Prod.fst))) rfl (by kernel_rfl) (Zv0 s _) (ZwT s _) hg hr
end
noncomputable def Ziv:Run:=entO Zrj ZrE (fun a=>Zbm a.1) (fun a=>ZbP a.1)
theorem ZjY:EntOK Go.Proofs.Tryz.prog 80 Ziv:=Zw1 (Zqy (Zi7 (fn:=Go.Proofs.Tryz.f80) (c:=setListBody) (by kernel_rfl) (by kernel_rfl) (by kernel_rfl))) fun a h=>ZtZ a.1 h
end Go.Ev
end

section
open Go Go.Ev
namespace Go.Ev
noncomputable section
def ZhC:Sig:=[(true,(.sl Za)),(false,(.int .i64))]
noncomputable def Zu6:Tbl:=[(51,Zk5),(78,ZuI),(53,ZcW),(80,Ziv)]
theorem ZIV:∀p∈Zu6,EntOK Go.Proofs.Tryz.prog p.1 p.2:=Zg Zlc (Zg Zyc (Zg Zce (Zg ZjY (Zt))))
noncomputable def ZoV:Code:=Go.Proofs.Tryz.f52.body.getD .skip
def ZrK:Tb:=[(4,⟨[2,5,6],[(1000000000000000000000000000000000000000000000000000000000007,1)]⟩)]
inductive Zl1 where | l4 (len:Nat) (seen:Int) (open_:List Int) (seen1:List (Int×Int))
def ZlH (t:List (El Za)) (i:Int):Zl1→JT Zl1 (List Int) |.l4 len seen open_ seen1=>.br (decide ((Int.ofNat len) > (0:Int))) (.br ((decide ((0:Int)≤(IntKind.i64.wrap ((Int.ofNat len) - (1:Int)))))&&(decide ((IntKind.i64.wrap ((Int.ofNat len) - (1:Int))) < (Int.ofNat len)))) (.br ((decide ((0:Int)≤(IntKind.i64.wrap ((Int.ofNat len) - (1:Int)))))&&(decide ((IntKind.i64.wrap ((Int.ofNat len) - (1:Int)))≤(Int.ofNat len)))) (.br (Zp (seen,seen1) (List.getD open_ (Int.toNat (IntKind.i64.wrap ((Int.ofNat len) - (1:Int)))) (dflt (.int .i64)))).1 (.br (Zfl t (List.getD open_ (Int.toNat (IntKind.i64.wrap ((Int.ofNat len) - (1:Int)))) (dflt (.int .i64)))) (.br (Nat.ble (((List.length (List.take (Int.toNat (IntKind.i64.wrap ((Int.ofNat len) - (1:Int)))) open_))+(List.length (Zab t (List.getD open_ (Int.toNat (IntKind.i64.wrap ((Int.ofNat len) - (1:Int)))) (dflt (.int .i64))))))*8) limit) (.jmp (.l4 (List.length ((List.take (Int.toNat (IntKind.i64.wrap ((Int.ofNat len) - (1:Int)))) open_)++(Zab t (List.getD open_ (Int.toNat (IntKind.i64.wrap ((Int.ofNat len) - (1:Int)))) (dflt (.int .i64)))))) (Zp (seen,seen1) (List.getD open_ (Int.toNat (IntKind.i64.wrap ((Int.ofNat len) - (1:Int)))) (dflt (.int .i64)))).2.1 ((List.take (Int.toNat (IntKind.i64.wrap ((Int.ofNat len) - (1:Int)))) open_)++(Zab t (List.getD open_ (Int.toNat (IntKind.i64.wrap ((Int.ofNat len) - (1:Int)))) (dflt (.int .i64))))) (Zp (seen,seen1) (List.getD open_ (Int.toNat (IntKind.i64.wrap ((Int.ofNat len) - (1:Int)))) (dflt (.int .i64)))).2.2)) (.no)) (.no)) (.jmp (.l4 (Int.toNat (IntKind.i64.wrap ((Int.ofNat len) - (1:Int)))) (Zp (seen,seen1) (List.getD open_ (Int.toNat (IntKind.i64.wrap ((Int.ofNat len) - (1:Int)))) (dflt (.int .i64)))).2.1 open_ (Zp (seen,seen1) (List.getD open_ (Int.toNat (IntKind.i64.wrap ((Int.ofNat len) - (1:Int)))) (dflt (.int .i64)))).2.2))) (.no)) (.no)) (.br (Zbm (seen,seen1)) (.leaf (ZbP (seen,seen1)).1) (.no))
def ZrR (t:List (El Za)) (i:Int):JT Zl1 (List Int):=.br (Zfl t i) (.jmp (.l4 (List.length (Zab t i)) (Zy (Int.ofNat (List.length t))).1 (Zab t i) (Zy (Int.ofNat (List.length t))).2)) (.no)
def Zqv:List Int→AV:=fun (r:List Int)=>.rw 3 (.int .i64) r
def Zg8 (t:List (El Za)) (i:Int):Zl1→Nat×St |.l4 len seen open_ seen1=>(4,⟨mkTm 39 [(2,.pt 3 0 0),(5,.pt 6 0 0),(6,.own 7 0 (some len))],[(3,0,.box 33 [.d (.sl Za) t] none),(6,0,.box 117 [.d (.int .i64) seen,.mp 6146 0] none),(7,0,.row 3 (.int .i64) open_ false),(6146,0,.map (.int .i64) (.int .u64) seen1)]⟩)
theorem ZI0 (t:List (El Za)) (i:Int) (L:Lt):entryA Go.Proofs.Tryz.prog (clOf Zu6) ZrK Go.Proofs.Tryz.f52 ZoV L (toForms ZhC (t,i,()))=(ZrR t i).run (fun v=>some (Zqv v,tps (toForms ZhC (t,i,())))) fun j=>L (Zg8 t i j).1 (Zg8 t i j).2:=by kernel_rfl
theorem ZKl (t:List (El Za)) (i:Int):∀(L:Lt) (j:Zl1),procOf (procsF Go.Proofs.Tryz.prog (clOf Zu6) ZrK Go.Proofs.Tryz.f52 ZoV (toForms ZhC (t,i,()))) (Zg8 t i j).1 L (Zg8 t i j).2=(ZlH t i j).run (fun v=>some (Zqv v,tps (toForms ZhC (t,i,())))) fun j=>L (Zg8 t i j).1 (Zg8 t i j).2 | L,.l4 len seen open_ seen1=>by kernel_rfl
end
end Go.Ev
end

section
open Go
namespace Go.Ev
noncomputable def ZbA (t:List (El Za)) (i:Int):List Int:=listOf t.length (fromB t i)
def ZiU (t:List (El Za)) (i:Int):Bool:=flowOK t
theorem ZDG (t:List (El Za)) (i:Int):(Zab t i).length≤3:=by
 unfold Zab
 by_cases h:0≤i∧i < (t.length:Int)
 ·obtain ⟨j,rfl⟩:=Int.eq_ofNat_of_zero_le h.1
  rw[←ZMf (by omega)]
  unfold nextL
  simp only[List.length_append]
  split <;> split <;> split <;> simp
 ·rw[ZAJ h];simp
theorem ZO5 {l:List Int} {n:Nat} (h:n+1≤l.length):l.take (n+1)=l.take n++[l.getD n 0]:=by
 have hn:n < l.length:=by omega
 rw[List.take_succ_eq_append_getElem hn,ZH hn]
theorem ZKL (t:List (El Za)) (i:Int) (hk:ZiU t i=true):Goes (ZlH t i) (ZrR t i) (ZbA t i):=by
 have hlen:=ZbC hk
 generalize hn:t.length=n at hlen
 have loop:∀m,∀(M:Nat→Bool) (s:Int×List (Int×Int)) (open_:List Int) (len:Nat),len≤open_.length→4*(n - card n M)+len=m→SetOK s n M→(∀j,M j=true→Come (fun k j=>nextB t (k:Int) j) (nextB t i) j)→
   (∀x∈open_.take len,∃j:Nat,x=(j:Int)∧Come (fun k j=>nextB t (k:Int) j) (nextB t i) j)→(∀j,nextB t i j=true→M j=true∨(j:Int)∈open_.take len)→(∀k j,M k=true→nextB t (k:Int) j=true→M j=true∨(j:Int)∈open_.take len)→
   len≤3*(card n M+1)→Goes (ZlH t i) (.jmp (.l4 len s.1 open_ s.2)) (ZbA t i):=by
  intro m
  induction m using Nat.strongRecOn with
  | _ m ih=>
  intro M s open_ len hl hm hs h1 h2 h3 h4 h5
  cases len with
  | zero=>
   rw[Zi,ZlH,Ze,if_neg (by decide)]
   have hkl:Zbm (s.1,s.2)=true:=Nat.ble_eq_true_of_le (by have:=hs.few;unfold limit;show s.2.length*512≤_;omega)
   rw[Ze,if_pos hkl]
   have hv:(ZbP (s.1,s.2)).1=ZbA t i:=by
    show listS s=_
    rw[hs.list (by omega)]
    unfold ZbA fromB
    rw[hn]
    refine ZsN fun j _=>ZqU (fun j hj=>?_) (fun k j hk hj=>?_) h1 j
    ·simpa using h3 j hj
    ·simpa using h4 k j hk hj
   rw[hv];exact .leaf
  | succ len=>
   have hc:= @ZeU n M
   have e:IntKind.i64.wrap (Int.ofNat (len+1) - 1)=(len:Int):=by
    rw[wrap_i64 (by simp <;> omega) (by simp <;> omega)];simp
   have g1:decide (Int.ofNat (len+1) > (0:Int))=true:=decide_eq_true (by simp <;> omega)
   have g2:(decide ((0:Int)≤(len:Int))&&decide ((len:Int) < Int.ofNat (len+1)))=true:=Zas (by omega)
   have g3:(decide ((0:Int)≤(len:Int))&&decide ((len:Int)≤Int.ofNat (len+1)))=true:=by simp;omega
   rw[Zi,ZlH,e,Ze,if_pos g1,Ze,if_pos g2,Ze,if_pos g3,Ze,Int.toNat_natCast]
   have htk:=ZO5 hl
   obtain ⟨j,hj,hcj⟩:=h2 (open_.getD len 0) (by rw[htk];simp)
   have hjn:j < n:=by
    have:=ZFg (n:=t.length) (fun j=>Zex) (fun k j=>Zex) hcj
    omega
   have hd:open_.getD len (dflt (.int .i64))=(j:Int):=hj
   rw[hd]
   have hput:Zp (s.1,s.2) (j:Int)=putS s (j:Int):=rfl
   rw[hput]
   have sub:∀x,x∈open_.take len→x∈open_.take (len+1):=fun x hx=>by rw[htk];simp[hx]
   cases hMj:M j with
   | true=>
    have hno:=hs.put_no (by omega) (i:=(j:Int)) (fun h=>by rw[Int.toNat_natCast,hMj] at h;cases h.2.2)
    rw[hno,if_neg (by simp)]
    have lose:∀k:Nat,(M k=true∨(k:Int)∈open_.take (len+1))→(M k=true∨(k:Int)∈open_.take len):=fun k h=>by
     rcases h with h | h
     ·exact .inl h
     ·rw[htk,List.mem_append] at h
      rcases h with h | h
      ·exact .inr h
      ·simp only[List.mem_singleton] at h
       rw[hj] at h
       have:k=j:=by omega
       subst this
       exact .inl hMj
    exact ih (m - 1) (by omega) M s open_ len (by omega) (by omega) hs h1 (fun x hx=>h2 x (sub x hx)) (fun k hk=>lose k (h3 k hk)) (fun k k' hk hk'=>lose k' (h4 k k' hk hk')) (by omega)
   | false=>
    obtain ⟨p1,p2⟩:=hs.put (by omega) hjn hMj
    have hsh:=ZDG t (j:Int)
    have hkn:Zfl t (j:Int)=true:=hk
    rw[p1,if_pos rfl,Ze,if_pos hkn,Ze,if_pos (Nat.ble_eq_true_of_le (by
     rw[List.length_take];unfold limit;omega))]
    have hcard:=Zm4 hMj hjn
    have hcl2:= @ZeU n (fun k=>M k || (k==j))
    have hnl:∀k:Nat,nextB t (j:Int) k=true→(k:Int)∈Zab t (j:Int):=fun k hk=>Zcv.2 ⟨k,Zex hk,hk,rfl⟩
    have htake:(open_.take len++Zab t (j:Int)).take (open_.take len++Zab t (j:Int)).length=open_.take len++Zab t (j:Int):=List.take_length
    have hlen2:(open_.take len++Zab t (j:Int)).length≤len+3:=by rw[List.length_append,List.length_take];omega
    have keep:∀k:Nat,(M k=true∨(k:Int)∈open_.take (len+1))→((M k || (k==j))=true∨(k:Int)∈open_.take len++Zab t (j:Int)):=fun k h=>by
     rcases h with h | h
     ·exact .inl (by rw[h];rfl)
     ·rw[htk,List.mem_append] at h
      rcases h with h | h
      ·exact .inr (List.mem_append_left _ h)
      ·simp only[List.mem_singleton] at h
       rw[hj] at h
       have:k=j:=by omega
       subst this
       exact .inl (by simp)
    refine ih _ (by omega) (fun k=>M k || (k==j)) (putS s (j:Int)).2 (open_.take len++Zab t (j:Int)) (open_.take len++Zab t (j:Int)).length (Nat.le_refl _) rfl p2 (fun k hk=>?_) (fun x hx=>?_) (fun k hk=>?_) (fun k k' hk hk'=>?_) (by omega)
    ·simp only[Bool.or_eq_true,beq_iff_eq] at hk
     rcases hk with hk | hk
     ·exact h1 k hk
     ·subst hk;exact hcj
    ·rw[htake,List.mem_append] at hx
     rcases hx with hx | hx
     ·exact h2 x (sub x hx)
     ·obtain ⟨k,_,hk,rfl⟩:=Zcv.1 hx
      exact ⟨k,rfl,.step hcj hk⟩
    ·rw[htake];exact keep k (h3 k hk)
    ·rw[htake]
     simp only[Bool.or_eq_true,beq_iff_eq] at hk
     rcases hk with hk | hk
     ·exact keep k' (h4 k k' hk hk')
     ·subst hk
      exact .inr (List.mem_append_right _ (hnl k' hk'))
 have hkn:Zfl t i=true:=hk
 unfold ZrR
 rw[Ze,if_pos hkn]
 have hnew:Zy (Int.ofNat (List.length t))=((n:Int),[]):=by
  rw[hn]
  unfold Zy
  simp
  omega
 rw[hnew]
 refine loop _ (fun _=>false) ((n:Int),[]) (Zab t i) _ (Nat.le_refl _) rfl (SetOK.new n) (fun j h=>by cases h) (fun x hx=>?_) (fun j hj=>.inr ?_) (fun k j h=>by cases h) (by have:=ZDG t i;omega)
 ·rw[List.take_length] at hx
  obtain ⟨k,_,hk,rfl⟩:=Zcv.1 hx
  exact ⟨k,rfl,.start hk⟩
 ·rw[List.take_length];exact Zcv.2 ⟨j,Zex hj,hj,rfl⟩
end Go.Ev
end

section
open Go Go.Ev
namespace Go.Ev
noncomputable section
noncomputable def Zvs:Run:=entG ZhC Zqv (fun a=>ZiU a.1 a.2.1) (fun a=>ZbA a.1 a.2.1)
theorem Zy6:EntOK Go.Proofs.Tryz.prog 52 Zvs:=ZI (tb:=ZrK) (c:=ZoV) ZIV (by kernel_rfl) (by kernel_rfl) (by kernel_rfl) (fun a=>by kernel_rfl) fun ⟨t,i,_⟩ hk=>Zl (c:=ZoV) (K:=fun v=>(Zqv v,tps (toForms ZhC (t,i,())))) (S:=Zg8 t i) (by kernel_rfl) (ZI0 t i) (ZKl t i) (ZKL t i hk)
end
end Go.Ev
end

section
open Go Go.Ev
namespace Go.Ev
noncomputable section
def ZlY:PSig:=[.dat false (.int .i64),.obj 82 [(.d (.sl Zb))],.obj 3 [(.d (.int .i64))],.ptr 86 117 [(.d (.int .i64)),(.m (.int .i64) (.int .u64))],.obj 23 [(.w 3 (.int .i64))],.obj 3 [(.d (.int .i64))],.ptr 86 117 [(.d (.int .i64)),(.m (.int .i64) (.int .u64))]]
noncomputable def ZnF:Tbl:=[(88,Zxo),(53,ZcW)]
theorem ZAU:∀p∈ZnF,EntOK Go.Proofs.Tryz.prog p.1 p.2:=Zg ZDy (Zg Zce (Zt))
noncomputable def Zgg:Code:=Go.Proofs.Tryz.f87.body.getD .skip
def Zli:Tb:=[(1,⟨[0,1,2,3,4,5,6,10,11,12],[]⟩)]
inductive Zgv where | l1 (h:Int) (h1:Int) (h2:List Int) (h3:List (Int×Int)) (h4:Int) (h5:List (Int×Int))
def Zgt (x:Int) (l:List (El Zb)) (own:Int) (come:Int×List (Int×Int)) (open_:List Int) (a:Int) (back:Int×List (Int×Int)):Zgv→JT Zgv ((List (El Zb))×Int×(Int×List (Int×Int))×(List Int)×Int×Int×List (Int×Int)) |.l1 h h1 h2 h3 h4 h5=>.br (decide (h < (Int.ofNat (List.length l)))) (.br ((decide ((0:Int)≤h))&&(decide (h < (Int.ofNat (List.length l))))) (.br ((decide ((0:Int)≤x))&&(decide (x < (Int.ofNat (List.length l))))) (.br (! (Zft (List.getD l (Int.toNat x) (dflt Zb)) (List.getD l (Int.toNat h) (dflt Zb)))) (.jmp (.l1 (IntKind.i64.wrap (h+(1:Int))) h1 h2 h3 h4 h5)) (.br ((List.getD l (Int.toNat h) (dflt Zb)).1 !=own) (.br (Zp (h1,h3) h).1 (.br (Nat.ble (((List.length h2)+1)*8) limit) (.jmp (.l1 (IntKind.i64.wrap (h+(1:Int))) (Zp (h1,h3) h).2.1 (h2++[h]) (Zp (h1,h3) h).2.2 h4 h5)) (.no)) (.jmp (.l1 (IntKind.i64.wrap (h+(1:Int))) (Zp (h1,h3) h).2.1 h2 (Zp (h1,h3) h).2.2 h4 h5))) (.br (x !=a) (.jmp (.l1 (IntKind.i64.wrap (h+(1:Int))) h1 h2 h3 (Zp (h4,h5) h).2.1 (Zp (h4,h5) h).2.2)) (.jmp (.l1 (IntKind.i64.wrap (h+(1:Int))) h1 h2 h3 h4 h5))))) (.no)) (.no)) (.leaf (l,(own,((h1,h3),(h2,(a,(h4,h5)))))))
def Ztf (x:Int) (l:List (El Zb)) (own:Int) (come:Int×List (Int×Int)) (open_:List Int) (a:Int) (back:Int×List (Int×Int)):JT Zgv ((List (El Zb))×Int×(Int×List (Int×Int))×(List Int)×Int×Int×List (Int×Int)):=.jmp (.l1 (0:Int) come.1 open_ come.2 back.1 back.2)
def Zi6:(List (El Zb))×Int×(Int×List (Int×Int))×(List Int)×Int×Int×List (Int×Int)→Ans:=fun (r:(List (El Zb))×Int×(Int×List (Int×Int))×(List Int)×Int×Int×List (Int×Int))=>(.tu [],[.top,.bx 82 [.d (.sl Zb) r.1],.bx 3 [.d (.int .i64) r.2.1],.bx 86 [.bx 117 [.d (.int .i64) r.2.2.1.1,.mv (.int .i64) (.int .u64) r.2.2.1.2]],.bx 23 [.rw 3 (.int .i64) r.2.2.2.1],.bx 3 [.d (.int .i64) r.2.2.2.2.1],.bx 86 [.bx 117 [.d (.int .i64) r.2.2.2.2.2.1,.mv (.int .i64) (.int .u64) r.2.2.2.2.2.2]]])
def ZcV (x:Int) (l:List (El Zb)) (own:Int) (come:Int×List (Int×Int)) (open_:List Int) (a:Int) (back:Int×List (Int×Int)):Zgv→Nat×St |.l1 h h1 h2 h3 h4 h5=>(1,⟨mkTm 42 [(0,.d (.int .i64) x),(1,.pt 2 0 0),(2,.pt 3 0 0),(3,.pt 4 0 0),(4,.pt 5 0 0),(5,.pt 6 0 0),(6,.pt 7 0 0),(10,.d (.sl Zb) l),(11,.d (.int .i64) (Int.ofNat (List.length l))),(12,.d (.int .i64) h)],[(2,0,.box 82 [.d (.sl Zb) l] (some 1)),(3,0,.box 3 [.d (.int .i64) own] (some 2)),(4,0,.box 86 [.pt 4097 0 0] (some 3)),(5,0,.box 23 [.own 5121 0 none] (some 4)),(6,0,.box 3 [.d (.int .i64) a] (some 5)),(7,0,.box 86 [.pt 7169 0 0] (some 6)),(4097,0,.box 117 [.d (.int .i64) h1,.mp 4195330 0] none),(5121,0,.row 3 (.int .i64) h2 false),(7169,0,.box 117 [.d (.int .i64) h4,.mp 7341058 0] none),(4195330,0,.map (.int .i64) (.int .u64) h3),(7341058,0,.map (.int .i64) (.int .u64) h5)]⟩)
theorem ZBZ (x:Int) (l:List (El Zb)) (own:Int) (come:Int×List (Int×Int)) (open_:List Int) (a:Int) (back:Int×List (Int×Int)) (L:Lt):entryA Go.Proofs.Tryz.prog (clOf ZnF) Zli Go.Proofs.Tryz.f87 Zgg L (toPs ZlY (x,l,own,come,open_,a,back,()))=(Ztf x l own come open_ a back).run (fun v=>some (Zi6 v)) fun j=>L (ZcV x l own come open_ a back j).1 (ZcV x l own come open_ a back j).2:=by kernel_rfl
theorem ZBq (x:Int) (l:List (El Zb)) (own:Int) (come:Int×List (Int×Int)) (open_:List Int) (a:Int) (back:Int×List (Int×Int)):∀(L:Lt) (j:Zgv),procOf (procsF Go.Proofs.Tryz.prog (clOf ZnF) Zli Go.Proofs.Tryz.f87 Zgg (toPs ZlY (x,l,own,come,open_,a,back,()))) (ZcV x l own come open_ a back j).1 L (ZcV x l own come open_ a back j).2=(Zgt x l own come open_ a back j).run (fun v=>some (Zi6 v)) fun j=>L (ZcV x l own come open_ a back j).1 (ZcV x l own come open_ a back j).2 | L,.l1 h h1 h2 h3 h4 h5=>by kernel_rfl
end
end Go.Ev
end

section
open Go
namespace Go.Ev
abbrev SetT:=Int×List (Int×Int)
def meet1 (l : List Acc) (x own a : Int) (h : Nat) (s : SetT × List Int × SetT) : SetT × List Int × SetT :=
  if clB l x.toNat h = true then
    (if thA l h ≠ own then ((putS s.1 (h : Int)).2, (if (putS s.1 (h : Int)).1 = true then s.2.1 ++ [(h : Int)] else s.2.1), s.2.2)
     else if x ≠ a then (s.1, s.2.1, (putS s.2.2 (h : Int)).2) else s)
  else s
def meetF (l:List Acc) (x own a:Int):List Nat→SetT×List Int×SetT→SetT×List Int×SetT
 | [],s=>s
 | h :: r,s=>meetF l x own a r (meet1 l x own a h s)
def ZW (x:Int) (l:List (El Zb)) (own:Int) (come:SetT) (open_:List Int) (a:Int) (back:SetT):(List (El Zb))×Int×SetT×(List Int)×Int×SetT:=
 (l,own,(meetF l x own a (List.range' 0 l.length) (come,open_,back)).1,(meetF l x own a (List.range' 0 l.length) (come,open_,back)).2.1,a,(meetF l x own a (List.range' 0 l.length) (come,open_,back)).2.2)
def Zgc (x:Int) (l:List (El Zb)) (own:Int) (come:SetT) (open_:List Int) (a:Int) (back:SetT):Bool:=decide (0≤x∧x < (l.length:Int)∧l.length < 1099511627776∧open_.length < 1099511627776)
theorem ZDk (x:Int) (l:List (El Zb)) (own:Int) (come:SetT) (open_:List Int) (a:Int) (back:SetT) (hk:Zgc x l own come open_ a back=true):Goes (Zgt x l own come open_ a back) (Ztf x l own come open_ a back) (ZW x l own come open_ a back):=by
 obtain ⟨x0,x1,hN,hO⟩:=of_decide_eq_true hk
 obtain ⟨T,hT⟩:∃T,T=Zgt x l own come open_ a back:=⟨_,rfl⟩
 rw[←hT]
 have loop:∀h,h≤l.length→∀s:SetT×List Int×SetT,s.2.1.length≤open_.length+h→Goes T (.jmp (.l1 (h:Int) s.1.1 s.2.1 s.1.2 s.2.2.1 s.2.2.2)) (l,own,(meetF l x own a (List.range' h (l.length - h)) s).1,(meetF l x own a (List.range' h (l.length - h)) s).2.1,a,(meetF l x own a (List.range' h (l.length - h)) s).2.2):=by
  refine down ?_ fun h hh ih=>?_
  ·intro s hs
   rw[Zi,hT,Zgt,←hT,Ze,if_neg (by rw[Zv (Nat.lt_irrefl _)];decide),Nat.sub_self]
   exact .leaf
  ·intro s hs
   have hx1:decide ((0:Int)≤x)=true:=decide_eq_true x0
   have hx2:decide (x < Int.ofNat l.length)=true:=decide_eq_true x1
   rw[show l.length - h=(l.length - (h+1))+1 by omega,List.range'_succ,meetF]
   have ec:Zft (List.getD l x.toNat (dflt Zb)) (List.getD l h (dflt Zb))=clB l x.toNat h:=rfl
   have et:(List.getD l h (dflt Zb)).1=thA l h:=rfl
   have hp:Zp (s.1.1,s.1.2) (h:Int)=putS s.1 (h:Int):=rfl
   have hp2:Zp (s.2.2.1,s.2.2.2) (h:Int)=putS s.2.2 (h:Int):=rfl
   have b1:Nat.ble ((s.2.1.length+1)*8) limit=true:=Nat.ble_eq_true_of_le (by unfold limit;omega)
   have key:=ih (meet1 l x own a h s)
   rw[Zi,hT,Zgt,←hT]
   simp only[Ze,ZO hh,nng,hx1,hx2,Bool.and_self,if_true,Int.toNat_natCast,ec,et,hp,hp2,b1,Zo (k:=h) (by omega)]
   by_cases c1:clB l x.toNat h=true
   ·rw[if_neg (by rw[c1];decide)]
    by_cases c2:thA l h=own
    ·rw[if_neg (by simp[c2])]
     by_cases c3:x=a
     ·have hm:meet1 l x own a h s=s:=by unfold meet1;rw[if_pos c1,if_neg (by simp[c2]),if_neg (by simp[c3])]
      rw[hm] at key ⊢
      rw[if_neg (by simp[c3])]
      exact key (by omega)
     ·have hm:meet1 l x own a h s=(s.1,s.2.1,(putS s.2.2 (h:Int)).2):=by unfold meet1;rw[if_pos c1,if_neg (by simp[c2]),if_pos c3]
      rw[hm] at key ⊢
      rw[if_pos (by simpa using c3)]
      exact key (by show s.2.1.length≤_;omega)
    ·rw[if_pos (by simpa using c2)]
     by_cases c4:(putS s.1 (h:Int)).1=true
     ·have hm:meet1 l x own a h s=((putS s.1 (h:Int)).2,s.2.1++[(h:Int)],s.2.2):=by unfold meet1;rw[if_pos c1,if_pos c2,if_pos c4]
      rw[hm] at key ⊢
      rw[if_pos c4]
      exact key (by show (s.2.1++[(h:Int)]).length≤_;simp;omega)
     ·have hm:meet1 l x own a h s=((putS s.1 (h:Int)).2,s.2.1,s.2.2):=by unfold meet1;rw[if_pos c1,if_pos c2,if_neg c4]
      rw[hm] at key ⊢
      rw[if_neg c4]
      exact key (by show s.2.1.length≤_;omega)
   ·have hm:meet1 l x own a h s=s:=by unfold meet1;rw[if_neg c1]
    rw[hm] at key ⊢
    rw[if_pos (by simpa using c1)]
    exact key (by omega)
 exact loop 0 (Nat.zero_le _) (come,open_,back) (by simp)
end Go.Ev
end

section
open Go Go.Ev
namespace Go.Ev
noncomputable section
noncomputable def Zue:Run:=entO ZlY Zi6 (fun a=>Zgc a.1 a.2.1 a.2.2.1 a.2.2.2.1 a.2.2.2.2.1 a.2.2.2.2.2.1 a.2.2.2.2.2.2.1) (fun a=>ZW a.1 a.2.1 a.2.2.1 a.2.2.2.1 a.2.2.2.2.1 a.2.2.2.2.2.1 a.2.2.2.2.2.2.1)
theorem ZA1:EntOK Go.Proofs.Tryz.prog 87 Zue:=ZLD (tb:=Zli) (c:=Zgg) (Zqy (Zi7 (fn:=Go.Proofs.Tryz.f87) (c:=Zgg) (by kernel_rfl) (by kernel_rfl) (by kernel_rfl))) ZAU (by kernel_rfl) (by kernel_rfl) (fun a=>by kernel_rfl) fun ⟨x,l,own,come,open_,a,back,_⟩ hk=>Zl (c:=Zgg) (K:=Zi6) (S:=ZcV x l own come open_ a back) (by kernel_rfl) (ZBZ x l own come open_ a back) (ZBq x l own come open_ a back) (ZDk x l own come open_ a back hk)
end
end Go.Ev
end

section
open Go Go.Ev
namespace Go.Ev
noncomputable section
def Zdd:Sig:=[(true,Zc),(false,(.sl Zb)),(false,(.int .i64))]
noncomputable def Zn9:Tbl:=[(51,Zk5),(52,Zvs),(53,ZcW),(54,Zgr)]
theorem ZA9:∀p∈Zn9,EntOK Go.Proofs.Tryz.prog p.1 p.2:=Zg Zlc (Zg Zy6 (Zg Zce (Zg Zfe (Zt))))
noncomputable def Zi9:Code:=Go.Proofs.Tryz.f89.body.getD .skip
def ZlU:Tb:=[(6,⟨[1,2,7,9,32,33,34,58,64,69,70,72,76],[]⟩),(14,⟨[2,7,9,12,42,43,44],[(13,46)]⟩)]
inductive Zgk where | l6 (h:Int) (x:Int) (x1:Int) (x2:Int) (x3:Int) (x4:Bool) (x5:Bool) (from_:Int) (h1:List Int) (from_1:List (Int×Int)) (h2:Int) | l14 (x:Int) (x1:Int) (x2:Int) (x3:Int) (x4:Bool) (x5:Bool) (from_:Int) (from_1:List (Int×Int)) (h:Int) (out:List Int)
def Zbg (p:El Zc) (l:List (El Zb)) (c:Int):Zgk→JT Zgk (List Int) |.l6 h x x1 x2 x3 x4 x5 from_ h1 from_1 h2=>.br (decide (h2 < h)) (.br ((decide ((0:Int)≤h2))&&(decide (h2 < (Int.ofNat (List.length h1))))) (.jmp (.l6 h x x1 x2 x3 x4 x5 (Zp (from_,from_1) (List.getD h1 (Int.toNat h2) (dflt (.int .i64)))).2.1 h1 (Zp (from_,from_1) (List.getD h1 (Int.toNat h2) (dflt (.int .i64)))).2.2 (IntKind.i64.wrap (h2+(1:Int))))) (.no)) (.jmp (.l14 x x1 x2 x3 x4 x5 from_ from_1 (0:Int) [])) |.l14 x x1 x2 x3 x4 x5 from_ from_1 h out=>.br (decide (h < (Int.ofNat (List.length l)))) (.br ((decide ((0:Int)≤h))&&(decide (h < (Int.ofNat (List.length l))))) (.br ((List.getD l (Int.toNat h) (dflt Zb)).1==x) (.br (h==c) (.br (Nat.ble (((List.length out)+1)*8) limit) (.jmp (.l14 x x1 x2 x3 x4 x5 from_ from_1 (IntKind.i64.wrap (h+(1:Int))) (out++[h]))) (.no)) (.br ((List.getD l (Int.toNat h) (dflt Zb)).2.1==x1) (.br (decide ((List.getD l (Int.toNat h) (dflt Zb)).2.2.1 > x2)) (.br (Nat.ble (((List.length out)+1)*8) limit) (.jmp (.l14 x x1 x2 x3 x4 x5 from_ from_1 (IntKind.i64.wrap (h+(1:Int))) (out++[h]))) (.no)) (.br (Zq (from_,from_1) (List.getD l (Int.toNat h) (dflt Zb)).2.1).1 (.br (Nat.ble (((List.length out)+1)*8) limit) (.jmp (.l14 x x1 x2 x3 x4 x5 (Zq (from_,from_1) (List.getD l (Int.toNat h) (dflt Zb)).2.1).2.1 (Zq (from_,from_1) (List.getD l (Int.toNat h) (dflt Zb)).2.1).2.2 (IntKind.i64.wrap (h+(1:Int))) (out++[h]))) (.no)) (.jmp (.l14 x x1 x2 x3 x4 x5 (Zq (from_,from_1) (List.getD l (Int.toNat h) (dflt Zb)).2.1).2.1 (Zq (from_,from_1) (List.getD l (Int.toNat h) (dflt Zb)).2.1).2.2 (IntKind.i64.wrap (h+(1:Int))) out)))) (.br (Zq (from_,from_1) (List.getD l (Int.toNat h) (dflt Zb)).2.1).1 (.br (Nat.ble (((List.length out)+1)*8) limit) (.jmp (.l14 x x1 x2 x3 x4 x5 (Zq (from_,from_1) (List.getD l (Int.toNat h) (dflt Zb)).2.1).2.1 (Zq (from_,from_1) (List.getD l (Int.toNat h) (dflt Zb)).2.1).2.2 (IntKind.i64.wrap (h+(1:Int))) (out++[h]))) (.no)) (.jmp (.l14 x x1 x2 x3 x4 x5 (Zq (from_,from_1) (List.getD l (Int.toNat h) (dflt Zb)).2.1).2.1 (Zq (from_,from_1) (List.getD l (Int.toNat h) (dflt Zb)).2.1).2.2 (IntKind.i64.wrap (h+(1:Int))) out))))) (.jmp (.l14 x x1 x2 x3 x4 x5 from_ from_1 (IntKind.i64.wrap (h+(1:Int))) out))) (.no)) (.leaf out)
def Zln (p:El Zc) (l:List (El Zb)) (c:Int):JT Zgk (List Int):=.br ((decide ((0:Int)≤c))&&(decide (c < (Int.ofNat (List.length l))))) (.br ((decide ((0:Int)≤(List.getD l (Int.toNat c) (dflt Zb)).1))&&(decide ((List.getD l (Int.toNat c) (dflt Zb)).1 < (Int.ofNat (List.length p.2))))) (.br (ZiU (List.getD p.2 (Int.toNat (List.getD l (Int.toNat c) (dflt Zb)).1) (dflt (.sl Za))) (List.getD l (Int.toNat c) (dflt Zb)).2.1) (.jmp (.l6 (Int.ofNat (List.length (ZbA (List.getD p.2 (Int.toNat (List.getD l (Int.toNat c) (dflt Zb)).1) (dflt (.sl Za))) (List.getD l (Int.toNat c) (dflt Zb)).2.1))) (List.getD l (Int.toNat c) (dflt Zb)).1 (List.getD l (Int.toNat c) (dflt Zb)).2.1 (List.getD l (Int.toNat c) (dflt Zb)).2.2.1 (List.getD l (Int.toNat c) (dflt Zb)).2.2.2.1 (List.getD l (Int.toNat c) (dflt Zb)).2.2.2.2.1 (List.getD l (Int.toNat c) (dflt Zb)).2.2.2.2.2 (Zy (Int.ofNat (List.length (List.getD p.2 (Int.toNat (List.getD l (Int.toNat c) (dflt Zb)).1) (dflt (.sl Za)))))).1 (ZbA (List.getD p.2 (Int.toNat (List.getD l (Int.toNat c) (dflt Zb)).1) (dflt (.sl Za))) (List.getD l (Int.toNat c) (dflt Zb)).2.1) (Zy (Int.ofNat (List.length (List.getD p.2 (Int.toNat (List.getD l (Int.toNat c) (dflt Zb)).1) (dflt (.sl Za)))))).2 (0:Int))) (.no)) (.no)) (.no)
def Zjh:List Int→AV:=fun (r:List Int)=>.rw 3 (.int .i64) r
def Zc7 (p:El Zc) (l:List (El Zb)) (c:Int):Zgk→Nat×St |.l6 h x x1 x2 x3 x4 x5 from_ h1 from_1 h2=>(6,⟨mkTm 85 [(1,.d (.sl Zb) l),(2,.d (.int .i64) c),(7,.pt 8 0 0),(9,.pt 10 0 0),(32,.own 33 0 none),(33,.d (.int .i64) h),(34,.d (.int .i64) h2)],[(8,0,.box 90 [.d (.int .i64) x,.d (.int .i64) x1,.d (.int .i64) x2,.d (.int .i64) x3,.d .bool x4,.d .bool x5] none),(10,0,.box 117 [.d (.int .i64) from_,.mp 10242 0] none),(33,0,.row 3 (.int .i64) h1 false),(10242,0,.map (.int .i64) (.int .u64) from_1)]⟩) |.l14 x x1 x2 x3 x4 x5 from_ from_1 h out=>(14,⟨mkTm 85 [(2,.d (.int .i64) c),(7,.pt 8 0 0),(9,.pt 10 0 0),(12,.own 13 0 none),(42,.d (.sl Zb) l),(43,.d (.int .i64) (Int.ofNat (List.length l))),(44,.d (.int .i64) h)],[(8,0,.box 90 [.d (.int .i64) x,.d (.int .i64) x1,.d (.int .i64) x2,.d (.int .i64) x3,.d .bool x4,.d .bool x5] none),(10,0,.box 117 [.d (.int .i64) from_,.mp 10242 0] none),(13,0,.row 3 (.int .i64) out false),(10242,0,.map (.int .i64) (.int .u64) from_1)]⟩)
theorem ZBk (p:El Zc) (l:List (El Zb)) (c:Int) (L:Lt):entryA Go.Proofs.Tryz.prog (clOf Zn9) ZlU Go.Proofs.Tryz.f89 Zi9 L (toForms Zdd (p,l,c,()))=(Zln p l c).run (fun v=>some (Zjh v,tps (toForms Zdd (p,l,c,())))) fun j=>L (Zc7 p l c j).1 (Zc7 p l c j).2:=by kernel_rfl
theorem ZBN (p:El Zc) (l:List (El Zb)) (c:Int):∀(L:Lt) (j:Zgk),procOf (procsF Go.Proofs.Tryz.prog (clOf Zn9) ZlU Go.Proofs.Tryz.f89 Zi9 (toForms Zdd (p,l,c,()))) (Zc7 p l c j).1 L (Zc7 p l c j).2=(Zbg p l c j).run (fun v=>some (Zjh v,tps (toForms Zdd (p,l,c,())))) fun j=>L (Zc7 p l c j).1 (Zc7 p l c j).2 | L,.l6 h x x1 x2 x3 x4 x5 from_ h1 from_1 h2=>by kernel_rfl | L,.l14 x x1 x2 x3 x4 x5 from_ from_1 h out=>by kernel_rfl
end
end Go.Ev
end

section
open Go
namespace Go.Ev
noncomputable def Zb7 (p:El Zc) (l:List (El Zb)) (c:Int):List Int:=listOf l.length (behB p l c.toNat)
def Zec (p:El Zc) (l:List (El Zb)) (c:Int):Bool:=decide (0≤c∧c < (l.length:Int)∧l.length < 1099511627776)&&(decide (0≤thA l c.toNat∧thA l c.toNat < (p.2.length:Int))&&flowOK (thrOf p l c.toNat))
theorem ZCb (p:El Zc) (l:List (El Zb)) (c:Int) (hk:Zec p l c=true):Goes (Zbg p l c) (Zln p l c) (Zb7 p l c):=by
 unfold Zec at hk
 simp only[Bool.and_eq_true,decide_eq_true_eq] at hk
 obtain ⟨⟨c0,c1,hN⟩,⟨t0,t1⟩,hf⟩:=hk
 obtain ⟨c,rfl⟩:=Int.eq_ofNat_of_zero_le c0
 rw[Int.toNat_natCast] at t0 t1 hf
 have hc:c < l.length:=by omega
 have htl:=ZbC hf
 obtain ⟨t,ht⟩:∃t,thrOf p l c=t:=⟨_,rfl⟩
 have hg:List.getD p.2 (Int.toNat (List.getD l c (dflt Zb)).1) (dflt (.sl Za))=t:=ht
 rw[ht] at hf htl
 have kf:ZiU t (List.getD l c (dflt Zb)).2.1=true:=hf
 obtain ⟨L,hL⟩:∃L,ZbA t (List.getD l c (dflt Zb)).2.1=L:=⟨_,rfl⟩
 have hLl:L.length≤t.length:=by rw[←hL];unfold ZbA;rw[Zif];exact ZeU
 have hmem:∀x,x∈L↔∃i:Nat,i < t.length∧fromB t (inA l c) i=true∧x=(i:Int):=fun x=>by rw[←hL];exact Zcv
 unfold Zln Zb7
 rw[Ze,if_pos (Zas hc),Ze,Int.toNat_natCast]
 have hth:(decide ((0:Int)≤(List.getD l c (dflt Zb)).1)&&decide ((List.getD l c (dflt Zb)).1 < Int.ofNat p.2.length))=true:=by
  rw[Bool.and_eq_true,decide_eq_true_eq,decide_eq_true_eq];exact ⟨t0,t1⟩
 rw[if_pos hth,Ze,hg,if_pos kf,hL]
 have hnew:Zy (Int.ofNat (List.length t))=(((t.length:Nat):Int),[]):=by
  unfold Zy
  simp
  omega
 rw[hnew]
 have second:∀(s:Int×List (Int×Int)),SetOK s t.length (fromB t (inA l c))→∀h,h≤l.length→∀out:List Int,out.length≤h→
   Goes (Zbg p l (c:Int)) (.jmp (.l14 (List.getD l c (dflt Zb)).1 (List.getD l c (dflt Zb)).2.1 (List.getD l c (dflt Zb)).2.2.1 (List.getD l c (dflt Zb)).2.2.2.1 (List.getD l c (dflt Zb)).2.2.2.2.1 (List.getD l c (dflt Zb)).2.2.2.2.2 s.1 s.2 (h:Int) out)) (out++listR l.length (behB p l c) h):=by
  intro s hs
  refine down ?_ fun h hh ih=>?_
  ·intro out ho
   rw[Zi,Zbg,Ze,if_neg (by rw[Zv (Nat.lt_irrefl _)];decide),ZOP,List.append_nil]
   exact .leaf
  ·intro out ho
   have b1:Nat.ble ((out.length+1)*8) limit=true:=Nat.ble_eq_true_of_le (by unfold limit;omega)
   have hhas:Zq (s.1,s.2) (inA l h)=(decide (0≤inA l h)&&fromB t (inA l c) (inA l h).toNat,s):=by
    show (hasS s (inA l h),s)=_
    rw[hs.has (by omega)]
   have add:behB p l c h=true→Goes (Zbg p l (c:Int)) (.jmp (.l14 (List.getD l c (dflt Zb)).1 (List.getD l c (dflt Zb)).2.1 (List.getD l c (dflt Zb)).2.2.1 (List.getD l c (dflt Zb)).2.2.2.1 (List.getD l c (dflt Zb)).2.2.2.2.1 (List.getD l c (dflt Zb)).2.2.2.2.2 s.1 s.2 ((h+1:Nat):Int) (out++[(h:Int)]))) (out++listR l.length (behB p l c) h):=fun hb=>by
    rw[ZDS hh,if_pos hb]
    have:=ih (out++[(h:Int)]) (by simp;omega)
    rwa[List.append_assoc] at this
   have skip:behB p l c h=false→Goes (Zbg p l (c:Int)) (.jmp (.l14 (List.getD l c (dflt Zb)).1 (List.getD l c (dflt Zb)).2.1 (List.getD l c (dflt Zb)).2.2.1 (List.getD l c (dflt Zb)).2.2.2.1 (List.getD l c (dflt Zb)).2.2.2.2.1 (List.getD l c (dflt Zb)).2.2.2.2.2 s.1 s.2 ((h+1:Nat):Int) out)) (out++listR l.length (behB p l c) h):=fun hb=>by
    rw[ZDS hh,hb,if_neg (by decide)]
    exact ih out (by omega)
   have e1:(List.getD l h (dflt Zb)).1=thA l h:=rfl
   have e2:(List.getD l h (dflt Zb)).2.1=inA l h:=rfl
   have e3:(List.getD l h (dflt Zb)).2.2.1=paA l h:=rfl
   have f1:(List.getD l c (dflt Zb)).1=thA l c:=rfl
   have f2:(List.getD l c (dflt Zb)).2.1=inA l c:=rfl
   have f3:(List.getD l c (dflt Zb)).2.2.1=paA l c:=rfl
   have hbe:behB p l c h=(thA l h==thA l c&&(h==c || ((inA l h==inA l c&&decide (paA l h > paA l c)) || (decide (0≤inA l h)&&fromB t (inA l c) (inA l h).toNat)))):=by
    unfold behB
    rw[decide_eq_true hh,Bool.true_and,ht]
   have hhc:((h:Int)==(c:Int))=(h==c):=by
    by_cases e:h=c
    ·subst e;simp
    ·have:(h==c)=false:=by simpa using e
     rw[this];simp;omega
   rw[Zi,Zbg]
   simp only[Ze,ZO hh,nng,Bool.and_self,if_true,Int.toNat_natCast,b1,Zo (k:=h) (by omega),e1,e2,e3,hhas,hhc]
   rw[f1,f2,f3] at*
   generalize hq:(decide (0≤inA l h)&&fromB t (inA l c) (inA l h).toNat)=q at*
   by_cases c1:(thA l h==thA l c)=true
   ·rw[if_pos c1]
    rw[c1,Bool.true_and] at hbe
    by_cases c2:(h==c)=true
    ·rw[if_pos c2]
     rw[c2,Bool.true_or] at hbe
     exact add hbe
    ·rw[if_neg c2]
     rw[Bool.eq_false_iff.2 c2,Bool.false_or] at hbe
     by_cases c3:(inA l h==inA l c)=true
     ·rw[if_pos c3]
      rw[c3,Bool.true_and] at hbe
      by_cases c4:decide (paA l h > paA l c)=true
      ·rw[if_pos c4]
       rw[c4,Bool.true_or] at hbe
       exact add hbe
      ·rw[if_neg c4]
       rw[Bool.eq_false_iff.2 c4,Bool.false_or] at hbe
       cases q with
       | true=>rw[if_pos rfl];exact add hbe
       | false=>rw[if_neg (by decide)];exact skip hbe
     ·rw[if_neg c3]
      rw[Bool.eq_false_iff.2 c3,Bool.false_and,Bool.false_or] at hbe
      cases q with
      | true=>rw[if_pos rfl];exact add hbe
      | false=>rw[if_neg (by decide)];exact skip hbe
   ·rw[if_neg c1]
    rw[Bool.eq_false_iff.2 c1,Bool.false_and] at hbe
    exact skip hbe
 have first:∀h,h≤L.length→∀(s:Int×List (Int×Int)),SetOK s t.length (fun j=>(L.take h).contains (j:Int))→
   Goes (Zbg p l (c:Int)) (.jmp (.l6 (Int.ofNat L.length) (List.getD l c (dflt Zb)).1 (List.getD l c (dflt Zb)).2.1 (List.getD l c (dflt Zb)).2.2.1 (List.getD l c (dflt Zb)).2.2.2.1 (List.getD l c (dflt Zb)).2.2.2.2.1 (List.getD l c (dflt Zb)).2.2.2.2.2 s.1 L s.2 (h:Int))) (listOf l.length (behB p l c)):=by
  refine down ?_ fun h hh ih=>?_
  ·intro s hs
   rw[Zi,Zbg,Ze,if_neg (by simp)]
   have:=second s (hs.congr' fun j=>by
    rw[List.take_length,Bool.eq_iff_iff,List.contains_iff_mem,hmem]
    constructor
    ·rintro ⟨i,_,h1,h2⟩;have:j=i:=by omega
     subst this;exact h1
    ·intro h;exact ⟨j,ZPi h,h,rfl⟩) 0 (Nat.zero_le _) [] (Nat.le_refl _)
   rwa[List.nil_append,ZNg] at this
  ·intro s hs
   obtain ⟨i,hi,_,hie⟩:=(hmem L[h]).1 (List.getElem_mem hh)
   obtain ⟨_,p2⟩:=hs.putO (by omega) hi
   have hp:Zp (s.1,s.2) (i:Int)=putS s (i:Int):=rfl
   rw[Zi,Zbg,Ze,if_pos (ZO hh),Ze,if_pos (Zas hh),Int.toNat_natCast,ZH hh,hie,hp,Zo (by omega)]
   refine ih _ (p2.congr' fun j=>?_)
   rw[List.take_succ_eq_append_getElem hh,Bool.eq_iff_iff,Bool.or_eq_true,List.contains_iff_mem,List.contains_iff_mem,List.mem_append,List.mem_singleton,hie,beq_iff_eq]
   exact or_congr Iff.rfl (by omega)
 exact first 0 (Nat.zero_le _) (((t.length:Nat):Int),[]) ((SetOK.new t.length).congr' fun j=>by simp)
end Go.Ev
end

section
open Go Go.Ev
namespace Go.Ev
noncomputable section
noncomputable def Zur:Run:=entG Zdd Zjh (fun a=>Zec a.1 a.2.1 a.2.2.1) (fun a=>Zb7 a.1 a.2.1 a.2.2.1)
theorem ZAj:EntOK Go.Proofs.Tryz.prog 89 Zur:=ZI (tb:=ZlU) (c:=Zi9) ZA9 (by kernel_rfl) (by kernel_rfl) (by kernel_rfl) (fun a=>by kernel_rfl) fun ⟨p,l,c,_⟩ hk=>Zl (c:=Zi9) (K:=fun v=>(Zjh v,tps (toForms Zdd (p,l,c,())))) (S:=Zc7 p l c) (by kernel_rfl) (ZBk p l c) (ZBN p l c) (ZCb p l c hk)
end
end Go.Ev
end

section
open Go Go.Ev
namespace Go.Ev
noncomputable section
def ZfN:Sig:=[(true,Zc),(false,(.int .i64))]
noncomputable def Zsz:Tbl:=[(49,ZxT),(51,Zk5),(87,Zue),(89,Zur),(53,ZcW),(80,Ziv)]
theorem ZGP:∀p∈Zsz,EntOK Go.Proofs.Tryz.prog p.1 p.2:=Zg Zz1 (Zg Zlc (Zg ZA1 (Zg ZAj (Zg Zce (Zg ZjY (Zt))))))
noncomputable def Znt:Code:=Go.Proofs.Tryz.f55.body.getD .skip
def ZpP:Tb:=[(11,⟨[2,5,7,9,10,11],[]⟩),(17,⟨[2,5,7,9,10,11,54,55,56],[]⟩),(hintK,⟨[],[(1,46)]⟩)]
inductive Zju where | l11 (l:List (El Zb)) (back:Int) (open_:List Int) (meet:Int) (meet1:Int) (back1:List (Int×Int)) (meet2:Int) (meet3:List (Int×Int)) (gone:Int) (gone1:List (Int×Int)) | l17 (h:Int) (l:List (El Zb)) (h1:List Int) (back:Int) (open_:List Int) (meet:Int) (meet1:Int) (back1:List (Int×Int)) (meet2:Int) (meet3:List (Int×Int)) (h2:Int) (gone:Int) (gone1:List (Int×Int))
def Zfi (p:El Zc) (a:Int):Zju→JT Zju (List Int) |.l11 l back open_ meet meet1 back1 meet2 meet3 gone gone1=>.br (decide ((Int.ofNat (List.length open_)) > (0:Int))) (.br (decide ((0:Int) < (Int.ofNat (List.length open_)))) (.br (Nat.ble 1 (List.length open_)) (.br (Zec p l (List.getD open_ 0 (dflt (.int .i64)))) (.jmp (.l17 (Int.ofNat (List.length (Zb7 p l (List.getD open_ 0 (dflt (.int .i64)))))) l (Zb7 p l (List.getD open_ 0 (dflt (.int .i64)))) back (List.drop 1 open_) meet meet1 back1 meet2 meet3 (0:Int) gone gone1)) (.no)) (.no)) (.no)) (.br (Zbm (back,back1)) (.leaf (ZbP (back,back1)).1) (.no)) |.l17 h l h1 back open_ meet meet1 back1 meet2 meet3 h2 gone gone1=>.br (decide (h2 < h)) (.br ((decide ((0:Int)≤h2))&&(decide (h2 < (Int.ofNat (List.length h1))))) (.br (Zp (gone,gone1) (List.getD h1 (Int.toNat h2) (dflt (.int .i64)))).1 (.br (Zgc (List.getD h1 (Int.toNat h2) (dflt (.int .i64))) l meet (meet2,meet3) open_ meet1 (back,back1)) (.jmp (.l17 h (ZW (List.getD h1 (Int.toNat h2) (dflt (.int .i64))) l meet (meet2,meet3) open_ meet1 (back,back1)).1 h1 (ZW (List.getD h1 (Int.toNat h2) (dflt (.int .i64))) l meet (meet2,meet3) open_ meet1 (back,back1)).2.2.2.2.2.1 (ZW (List.getD h1 (Int.toNat h2) (dflt (.int .i64))) l meet (meet2,meet3) open_ meet1 (back,back1)).2.2.2.1 (ZW (List.getD h1 (Int.toNat h2) (dflt (.int .i64))) l meet (meet2,meet3) open_ meet1 (back,back1)).2.1 (ZW (List.getD h1 (Int.toNat h2) (dflt (.int .i64))) l meet (meet2,meet3) open_ meet1 (back,back1)).2.2.2.2.1 (ZW (List.getD h1 (Int.toNat h2) (dflt (.int .i64))) l meet (meet2,meet3) open_ meet1 (back,back1)).2.2.2.2.2.2 (ZW (List.getD h1 (Int.toNat h2) (dflt (.int .i64))) l meet (meet2,meet3) open_ meet1 (back,back1)).2.2.1.1 (ZW (List.getD h1 (Int.toNat h2) (dflt (.int .i64))) l meet (meet2,meet3) open_ meet1 (back,back1)).2.2.1.2 (IntKind.i64.wrap (h2+(1:Int))) (Zp (gone,gone1) (List.getD h1 (Int.toNat h2) (dflt (.int .i64)))).2.1 (Zp (gone,gone1) (List.getD h1 (Int.toNat h2) (dflt (.int .i64)))).2.2)) (.no)) (.jmp (.l17 h l h1 back open_ meet meet1 back1 meet2 meet3 (IntKind.i64.wrap (h2+(1:Int))) (Zp (gone,gone1) (List.getD h1 (Int.toNat h2) (dflt (.int .i64)))).2.1 (Zp (gone,gone1) (List.getD h1 (Int.toNat h2) (dflt (.int .i64)))).2.2))) (.no)) (.jmp (.l11 l back open_ meet meet1 back1 meet2 meet3 gone gone1))
def Zpt (p:El Zc) (a:Int):JT Zju (List Int):=.br (ZoF p) (.br (decide (a < (0:Int))) (.leaf []) (.br (decide (a≥(Int.ofNat (List.length (ZD p))))) (.leaf []) (.br ((decide ((0:Int)≤a))&&(decide (a < (Int.ofNat (List.length (ZD p)))))) (.br (Zgc a (ZD p) (List.getD (ZD p) (Int.toNat a) (dflt Zb)).1 (Zy (Int.ofNat (List.length (ZD p)))) [] a (Zy (Int.ofNat (List.length (ZD p))))) (.jmp (.l11 (ZW a (ZD p) (List.getD (ZD p) (Int.toNat a) (dflt Zb)).1 (Zy (Int.ofNat (List.length (ZD p)))) [] a (Zy (Int.ofNat (List.length (ZD p))))).1 (ZW a (ZD p) (List.getD (ZD p) (Int.toNat a) (dflt Zb)).1 (Zy (Int.ofNat (List.length (ZD p)))) [] a (Zy (Int.ofNat (List.length (ZD p))))).2.2.2.2.2.1 (ZW a (ZD p) (List.getD (ZD p) (Int.toNat a) (dflt Zb)).1 (Zy (Int.ofNat (List.length (ZD p)))) [] a (Zy (Int.ofNat (List.length (ZD p))))).2.2.2.1 (ZW a (ZD p) (List.getD (ZD p) (Int.toNat a) (dflt Zb)).1 (Zy (Int.ofNat (List.length (ZD p)))) [] a (Zy (Int.ofNat (List.length (ZD p))))).2.1 (ZW a (ZD p) (List.getD (ZD p) (Int.toNat a) (dflt Zb)).1 (Zy (Int.ofNat (List.length (ZD p)))) [] a (Zy (Int.ofNat (List.length (ZD p))))).2.2.2.2.1 (ZW a (ZD p) (List.getD (ZD p) (Int.toNat a) (dflt Zb)).1 (Zy (Int.ofNat (List.length (ZD p)))) [] a (Zy (Int.ofNat (List.length (ZD p))))).2.2.2.2.2.2 (ZW a (ZD p) (List.getD (ZD p) (Int.toNat a) (dflt Zb)).1 (Zy (Int.ofNat (List.length (ZD p)))) [] a (Zy (Int.ofNat (List.length (ZD p))))).2.2.1.1 (ZW a (ZD p) (List.getD (ZD p) (Int.toNat a) (dflt Zb)).1 (Zy (Int.ofNat (List.length (ZD p)))) [] a (Zy (Int.ofNat (List.length (ZD p))))).2.2.1.2 (Zy (Int.ofNat (List.length (ZD p)))).1 (Zy (Int.ofNat (List.length (ZD p)))).2)) (.no)) (.no)))) (.no)
def Zm9:List Int→AV:=fun (r:List Int)=>.rw 3 (.int .i64) r
def Ze0 (p:El Zc) (a:Int):Zju→Nat×St |.l11 l back open_ meet meet1 back1 meet2 meet3 gone gone1=>(11,⟨mkTm 69 [(2,.pt 3 0 0),(5,.pt 6 0 0),(7,.pt 8 0 0),(9,.pt 10 0 0),(10,.pt 11 0 0),(11,.fn 87 [.pt 6 0 0,.pt 12290 0 0,.pt 12291 0 0,.pt 11 0 0,.pt 12293 0 0,.pt 8 0 0])],[(3,0,.box 27 [.d (.sl Zx) p.1,.d (.sl (.sl Za)) p.2] none),(6,0,.box 82 [.d (.sl Zb) l] none),(8,0,.box 86 [.pt 8193 0 0] none),(10,0,.box 117 [.d (.int .i64) gone,.mp 10242 0] none),(11,0,.box 23 [.own 11265 0 none] none),(8193,0,.box 117 [.d (.int .i64) back,.mp 8389634 0] none),(10242,0,.map (.int .i64) (.int .u64) gone1),(11265,0,.row 3 (.int .i64) open_ false),(12290,0,.box 3 [.d (.int .i64) meet] none),(12291,0,.box 86 [.pt 12585985 0 0] none),(12293,0,.box 3 [.d (.int .i64) meet1] none),(8389634,0,.map (.int .i64) (.int .u64) back1),(12585985,0,.box 117 [.d (.int .i64) meet2,.mp 12888048642 0] none),(12888048642,0,.map (.int .i64) (.int .u64) meet3)]⟩) |.l17 h l h1 back open_ meet meet1 back1 meet2 meet3 h2 gone gone1=>(17,⟨mkTm 69 [(2,.pt 3 0 0),(5,.pt 6 0 0),(7,.pt 8 0 0),(9,.pt 10 0 0),(10,.pt 11 0 0),(11,.fn 87 [.pt 6 0 0,.pt 12290 0 0,.pt 12291 0 0,.pt 11 0 0,.pt 12293 0 0,.pt 8 0 0]),(54,.own 55 0 none),(55,.d (.int .i64) h),(56,.d (.int .i64) h2)],[(3,0,.box 27 [.d (.sl Zx) p.1,.d (.sl (.sl Za)) p.2] none),(6,0,.box 82 [.d (.sl Zb) l] none),(8,0,.box 86 [.pt 8193 0 0] none),(10,0,.box 117 [.d (.int .i64) gone,.mp 10242 0] none),(11,0,.box 23 [.own 11265 0 none] none),(55,0,.row 3 (.int .i64) h1 false),(8193,0,.box 117 [.d (.int .i64) back,.mp 8389634 0] none),(10242,0,.map (.int .i64) (.int .u64) gone1),(11265,0,.row 3 (.int .i64) open_ false),(12290,0,.box 3 [.d (.int .i64) meet] none),(12291,0,.box 86 [.pt 12585985 0 0] none),(12293,0,.box 3 [.d (.int .i64) meet1] none),(8389634,0,.map (.int .i64) (.int .u64) back1),(12585985,0,.box 117 [.d (.int .i64) meet2,.mp 12888048642 0] none),(12888048642,0,.map (.int .i64) (.int .u64) meet3)]⟩)
theorem ZFQ (p:El Zc) (a:Int) (L:Lt):entryA Go.Proofs.Tryz.prog (clOf Zsz) ZpP Go.Proofs.Tryz.f55 Znt L (toForms ZfN (p,a,()))=(Zpt p a).run (fun v=>some (Zm9 v,tps (toForms ZfN (p,a,())))) fun j=>L (Ze0 p a j).1 (Ze0 p a j).2:=by kernel_rfl
theorem ZF2 (p:El Zc) (a:Int):∀(L:Lt) (j:Zju),procOf (procsF Go.Proofs.Tryz.prog (clOf Zsz) ZpP Go.Proofs.Tryz.f55 Znt (toForms ZfN (p,a,()))) (Ze0 p a j).1 L (Ze0 p a j).2=(Zfi p a j).run (fun v=>some (Zm9 v,tps (toForms ZfN (p,a,())))) fun j=>L (Ze0 p a j).1 (Ze0 p a j).2 | L,.l11 l back open_ meet meet1 back1 meet2 meet3 gone gone1=>by kernel_rfl | L,.l17 h l h1 back open_ meet meet1 back1 meet2 meet3 h2 gone gone1=>by kernel_rfl
end
end Go.Ev
end

section
namespace Go.Ev
open Go
theorem Zz4 {t:Nat} {a:El Zb} :∀ {l:List (El Za)} {k:Nat},a∈accT t k l↔∃(j:Nat) (i:El Za),l[j]? =some i∧a∈accI t (k+j) i
 | [],k=>by simp[accT]
 | i :: r,k=>by
  unfold accT
  rw[List.mem_append,Zz4 (l:=r)]
  constructor
  ·rintro (h | ⟨j,i',h1,h2⟩)
   ·exact ⟨0,i,rfl,h⟩
   ·exact ⟨j+1,i',by simpa using h1,by rw[show k+(j+1)=k+1+j by omega];exact h2⟩
  ·rintro ⟨j,i',h1,h2⟩
   cases j with
   | zero=>left;simp at h1;subst h1;exact h2
   | succ j=>right;exact ⟨j,i',by simpa using h1,by rw[show k+1+j=k+(j+1) by omega];exact h2⟩
theorem ZO6 {t k:Nat} {i:El Za} {a:El Zb} :a∈accI t k i↔((ZaI i).2=true∧a=((t:Int),((k:Int),((0:Int),((ZaI i).1.2.2.1,(false,Zak i))))))∨((ZaF i).2=true∧a=((t:Int),((k:Int),((if (ZaI i).2 then (1:Int) else 0),((ZaF i).1.2.2.1,(true,Zak i)))))):=by
 unfold accI
 rw[List.mem_append]
 cases (ZaI i).2 <;> cases (ZaF i).2 <;> simp
theorem Zwc {t k:Nat} {i:El Za} {a:El Zb} (h:a∈accI t k i):(show Int from a.1)=(t:Int)∧(show Int from a.2.1)=(k:Int):=by
 rcases ZO6.1 h with ⟨_,rfl⟩ | ⟨_,rfl⟩ <;> exact ⟨rfl,rfl⟩
theorem ZAO {a:El Zb} :∀ {l:List (List (El Za))} {t:Nat},a∈accP t l↔∃(u:Nat) (x:List (El Za)) (j:Nat) (i:El Za),l[u]? =some x∧x[j]? =some i∧a∈accI (t+u) j i
 | [],t=>by simp[accP]
 | x :: r,t=>by
  unfold accP
  rw[List.mem_append,Zz4,ZAO (l:=r)]
  constructor
  ·rintro (⟨j,i,h1,h2⟩ | ⟨u,y,j,i,h1,h2,h3⟩)
   ·exact ⟨0,x,j,i,rfl,h1,by rw[Nat.zero_add] at h2;exact h2⟩
   ·exact ⟨u+1,y,j,i,by simpa using h1,h2,by rw[show t+(u+1)=t+1+u by omega];exact h3⟩
  ·rintro ⟨u,y,j,i,h1,h2,h3⟩
   cases u with
   | zero=>
    left
    simp at h1
    subst h1
    exact ⟨j,i,h2,by rw[Nat.zero_add];exact h3⟩
   | succ u=>right;exact ⟨u,y,j,i,by simpa using h1,h2,by rw[show t+1+u=t+(u+1) by omega];exact h3⟩
theorem ZKo {p:El Zc} {a:El Zb} (h:a∈ofC p):∃(u:Nat) (x:List (El Za)) (j:Nat) (i:El Za),p.2[u]? =some x∧x[j]? =some i∧a∈accI u j i∧(show Int from a.1)=(u:Int)∧(show Int from a.2.1)=(j:Int):=by
 unfold ofC at h
 split at h
 ·obtain ⟨u,x,j,i,h1,h2,h3⟩:=ZAO.1 h
  rw[Nat.zero_add] at h3
  exact ⟨u,x,j,i,h1,h2,h3,(Zwc h3).1,(Zwc h3).2⟩
 ·cases h
def ltNX (t k q t' k' q':Int):Prop:=t < t'∨t=t'∧(k < k'∨k=k'∧q < q')
def ltAX (a b:El Zb):Prop:=ltNX a.1 a.2.1 a.2.2.1 b.1 b.2.1 b.2.2.1
theorem ZOd (t k:Nat) (i:El Za):(accI t k i).Pairwise ltAX:=by
 unfold accI
 cases (ZaI i).2 <;> cases (ZaF i).2 <;> simp[List.pairwise_cons]
 exact .inr ⟨rfl,.inr ⟨rfl,by show (0:Int) < 1;omega⟩⟩
theorem ZMv {t:Nat} {l:List (El Za)} {k:Nat} {a:El Zb} (h:a∈accT t k l):∃(j:Nat) (i:El Za),l[j]? =some i∧a∈accI t (k+j) i∧(show Int from a.1)=(t:Int)∧(show Int from a.2.1)=((k+j:Nat):Int):=by
 obtain ⟨j,i,h1,h2⟩:=Zz4.1 h
 exact ⟨j,i,h1,h2,Zwc h2⟩
theorem ZIk (t:Nat):∀(k:Nat) (l:List (El Za)),(accT t k l).Pairwise ltAX
 | _,[]=>.nil
 | k,i :: r=>by
  unfold accT
  refine List.pairwise_append.2 ⟨ZOd t k i,ZIk t (k+1) r,fun a ha b hb=>?_⟩
  obtain ⟨h1,h2⟩:=Zwc ha
  obtain ⟨j,_,_,_,h3,h4⟩:=ZMv hb
  have key:∀a1 a2 a3 b1 b2 b3:Int,a1=t→a2=k→b1=t→b2=((k+1+j:Nat):Int)→ltNX a1 a2 a3 b1 b2 b3:=fun a1 a2 a3 b1 b2 b3 e1 e2 e3 e4=>.inr ⟨by omega,.inl (by omega)⟩
  exact key _ _ _ _ _ _ h1 h2 h3 h4
theorem ZIs:∀(t:Nat) (l:List (List (El Za))),(accP t l).Pairwise ltAX
 | _,[]=>.nil
 | t,x :: r=>by
  unfold accP
  refine List.pairwise_append.2 ⟨ZIk t 0 x,ZIs (t+1) r,fun a ha b hb=>?_⟩
  obtain ⟨_,_,_,_,h1,_⟩:=ZMv ha
  obtain ⟨u,_,_,_,_,_,hb3⟩:=ZAO.1 hb
  have h3:=(Zwc hb3).1
  have key:∀a1 a2 a3 b1 b2 b3:Int,a1=t→b1=((t+1+u:Nat):Int)→ltNX a1 a2 a3 b1 b2 b3:=fun a1 a2 a3 b1 b2 b3 e1 e3=>.inl (by omega)
  exact key _ _ _ _ _ _ h1 h3
theorem ZNZ (p:El Zc):(ofC p).Pairwise ltAX:=by
 unfold ofC
 split
 ·exact ZIs 0 p.2
 ·exact .nil
theorem Ztw {t:List (El Za)} (h:smallThread t=true):flowOK t=true:=by
 have labs:∀ {t:List (El Za)} {i:El Za},i∈t→i.2.2.2.2.2.2.length≤(labels t).length:=fun {t i} hi=>by
  unfold labels
  induction t with
  | nil=>cases hi
  | cons x r ih=>
   rw[List.flatMap_cons,List.length_append]
   rcases List.mem_cons.1 hi with rfl | hi
   ·omega
   ·have:=ih hi;omega
 unfold smallThread at h
 simp only[Bool.and_eq_true,List.all_eq_true,decide_eq_true_eq] at h
 unfold flowOK
 simp only[Bool.and_eq_true,List.all_eq_true,decide_eq_true_eq]
 refine ⟨h.1,fun i hi=>⟨(h.2.2 i hi).1,?_⟩⟩
 have:=labs hi
 omega
end Go.Ev
end

section
open Go
namespace Go.Ev
noncomputable def ZbI (p:El Zc) (a:Int):List Int:=if 0≤a∧a < ((ofC p).length:Int) then listOf (ofC p).length (backB p (ofC p) a.toNat) else []
def ZhB (p:El Zc) (a:Int):Bool:=smallAll p
theorem ZF9 {l:List Acc} {x:Nat} {own a:Int} :∀(n h:Nat) (s:SetT×List Int×SetT) (C B:Nat→Bool),l.length < 1099511627776→h+n≤l.length→SetOK s.1 l.length C→SetOK s.2.2 l.length B→
  ∃C' B',SetOK (meetF l (x:Int) own a (List.range' h n) s).1 l.length C'∧SetOK (meetF l (x:Int) own a (List.range' h n) s).2.2 l.length B'∧
   (∀j,C' j=true↔C j=true∨(h≤j∧j < h+n∧clB l x j=true∧thA l j≠own))∧(∀j,B' j=true↔B j=true∨(h≤j∧j < h+n∧clB l x j=true∧thA l j=own∧(x:Int)≠a))∧
   (∀y∈s.2.1,y∈(meetF l (x:Int) own a (List.range' h n) s).2.1)∧(∀y∈(meetF l (x:Int) own a (List.range' h n) s).2.1,y∈s.2.1∨∃j:Nat,y=(j:Int)∧C' j=true)∧
   (∀j,C' j=true→C j=true∨(j:Int)∈(meetF l (x:Int) own a (List.range' h n) s).2.1)∧(meetF l (x:Int) own a (List.range' h n) s).2.1.length+card l.length C=s.2.1.length+card l.length C'
 | 0,h,s,C,B,_,_,hC,hB=>⟨C,B,hC,hB,fun j=>⟨.inl,fun h=>h.elim id fun h=>by omega⟩,fun j=>⟨.inl,fun h=>h.elim id fun h=>by omega⟩,fun y hy=>hy,fun y hy=>.inl hy,fun j hj=>.inl hj,rfl⟩
 | n+1,h,s,C,B,hN,hn,hC,hB=>by
  rw[List.range'_succ,meetF]
  have hh:h < l.length:=by omega
  have one:∃C1 B1,SetOK (meet1 l (x:Int) own a h s).1 l.length C1∧SetOK (meet1 l (x:Int) own a h s).2.2 l.length B1∧(∀j,C1 j=true↔C j=true∨(j=h∧clB l x h=true∧thA l h≠own))∧(∀j,B1 j=true↔B j=true∨(j=h∧clB l x h=true∧thA l h=own∧(x:Int)≠a))∧
    (∀y∈s.2.1,y∈(meet1 l (x:Int) own a h s).2.1)∧(∀y∈(meet1 l (x:Int) own a h s).2.1,y∈s.2.1∨∃j:Nat,y=(j:Int)∧C1 j=true)∧(∀j,C1 j=true→C j=true∨(j:Int)∈(meet1 l (x:Int) own a h s).2.1)∧
    (meet1 l (x:Int) own a h s).2.1.length+card l.length C=s.2.1.length+card l.length C1:=by
   unfold meet1
   rw[Int.toNat_natCast]
   by_cases c1:clB l x h=true
   ·rw[if_pos c1]
    by_cases c2:thA l h=own
    ·rw[if_neg (by simp[c2])]
     by_cases c3:(x:Int)=a
     ·rw[if_neg (by simp[c3])]
      exact ⟨C,B,hC,hB,fun j=>⟨.inl,fun h=>h.elim id fun h=>absurd c2 h.2.2⟩,fun j=>⟨.inl,fun h=>h.elim id fun h=>absurd c3 h.2.2.2⟩,fun y hy=>hy,fun y hy=>.inl hy,fun j hj=>.inl hj,rfl⟩
     ·rw[if_pos c3]
      obtain ⟨_,p2⟩:=hB.putO (by omega) hh
      refine ⟨C,_,hC,p2,fun j=>⟨.inl,fun h=>h.elim id fun h=>absurd c2 h.2.2⟩,fun j=>?_,fun y hy=>hy,fun y hy=>.inl hy,fun j hj=>.inl hj,rfl⟩
      rw[Bool.or_eq_true,beq_iff_eq]
      exact or_congr Iff.rfl ⟨fun h=>⟨h,c1,c2,c3⟩,fun h=>h.1⟩
    ·rw[if_pos c2]
     obtain ⟨p1,p2⟩:=hC.putO (by omega) hh
     have hB':∀j,B j=true↔B j=true∨(j=h∧clB l x h=true∧thA l h=own∧(x:Int)≠a):=fun j=>⟨.inl,fun h=>h.elim id fun h=>absurd h.2.2.1 c2⟩
     have hC':∀j,(C j || (j==h))=true↔C j=true∨(j=h∧clB l x h=true∧thA l h≠own):=fun j=>by
      rw[Bool.or_eq_true,beq_iff_eq]
      exact or_congr Iff.rfl ⟨fun h=>⟨h,c1,c2⟩,fun h=>h.1⟩
     refine ⟨_,B,p2,hB,hC',hB',?_⟩
     cases hCh:C h with
     | true=>
      rw[hCh] at p1
      rw[if_neg (by rw[p1];decide)]
      have e:(fun k=>C k || (k==h))=C:=funext fun k=>by
       by_cases hk:k=h
       ·subst hk;rw[hCh];rfl
       ·have:(k==h)=false:=by simpa using hk
        rw[this,Bool.or_false]
      refine ⟨fun y hy=>hy,fun y hy=>.inl hy,fun j hj=>.inl ?_,by rw[e]⟩
      have:=congrFun e j
      rw[←this];exact hj
     | false=>
      rw[hCh] at p1
      rw[if_pos (by rw[p1];rfl)]
      refine ⟨fun y hy=>List.mem_append_left _ hy,fun y hy=>?_,fun j hj=>?_,?_⟩
      ·rcases List.mem_append.1 hy with hy | hy
       ·exact .inl hy
       ·simp only[List.mem_singleton] at hy
        exact .inr ⟨h,hy,by simp⟩
      ·rw[Bool.or_eq_true,beq_iff_eq] at hj
       rcases hj with hj | rfl
       ·exact .inl hj
       ·exact .inr (List.mem_append_right _ (by simp))
      ·rw[Zm4 hCh hh,List.length_append,List.length_singleton]
       omega
   ·rw[if_neg c1]
    exact ⟨C,B,hC,hB,fun j=>⟨.inl,fun h=>h.elim id fun h=>absurd h.2.1 c1⟩,fun j=>⟨.inl,fun h=>h.elim id fun h=>absurd h.2.1 c1⟩,fun y hy=>hy,fun y hy=>.inl hy,fun j hj=>.inl hj,rfl⟩
  obtain ⟨C1,B1,a1,a2,a3,a4,a5,a6,a7,a8⟩:=one
  obtain ⟨C2,B2,b1,b2,b3,b4,b5,b6,b7,b8⟩:=ZF9 n (h+1) (meet1 l (x:Int) own a h s) C1 B1 hN (by omega) a1 a2
  refine ⟨C2,B2,b1,b2,fun j=>?_,fun j=>?_,fun y hy=>b5 y (a5 y hy),fun y hy=>?_,fun j hj=>?_,by omega⟩
  ·rw[b3,a3,or_assoc]
   refine or_congr Iff.rfl ⟨?_,?_⟩
   ·rintro (⟨rfl,h1⟩ | ⟨h1,h2,h3⟩)
    ·exact ⟨Nat.le_refl _,by omega,h1⟩
    ·exact ⟨by omega,by omega,h3⟩
   ·rintro ⟨h1,h2,h3⟩
    by_cases e:j=h
    ·subst e;exact .inl ⟨rfl,h3⟩
    ·exact .inr ⟨by omega,by omega,h3⟩
  ·rw[b4,a4,or_assoc]
   refine or_congr Iff.rfl ⟨?_,?_⟩
   ·rintro (⟨rfl,h1⟩ | ⟨h1,h2,h3⟩)
    ·exact ⟨Nat.le_refl _,by omega,h1⟩
    ·exact ⟨by omega,by omega,h3⟩
   ·rintro ⟨h1,h2,h3⟩
    by_cases e:j=h
    ·subst e;exact .inl ⟨rfl,h3⟩
    ·exact .inr ⟨by omega,by omega,h3⟩
  ·rcases b6 y hy with h1 | h1
   ·rcases a6 y h1 with h2 | ⟨j,h2,h3⟩
    ·exact .inl h2
    ·exact .inr ⟨j,h2,(b3 j).2 (.inl h3)⟩
   ·exact .inr h1
  ·rcases b7 j hj with h1 | h1
   ·rcases a7 j h1 with h2 | h2
    ·exact .inl h2
    ·exact .inr (b5 _ h2)
   ·exact .inr h1
structure BInv (p:El Zc) (l:List Acc) (a:Nat) (C G B:Nat→Bool) (O:List Int):Prop where
 c:∀c,C c=true↔c < l.length∧thA l c≠thA l a∧(clB l a c=true∨∃k,G k=true∧clB l k c=true)
 g:∀d,G d=true→∃c,C c=true∧behB p l c d=true
 o:∀x∈O,∃c:Nat,x=(c:Int)∧C c=true
 b:∀b,B b=true↔b < l.length∧thA l b=thA l a∧∃k,G k=true∧clB l k b=true
 s:∀d,G d=true→isB p l a d=true
theorem BInv.is {p:El Zc} {l:List Acc} {a:Nat} {C G B:Nat→Bool} {O:List Int} (h:BInv p l a C G B O) {c:Nat} (hc:C c=true):isB p l a c=true:=by
 obtain ⟨h1,h2,h3⟩:=(h.c c).1 hc
 rcases h3 with h3 | ⟨k,hk,h3⟩
 ·exact ZdY.2 (.start (by unfold chS;rw[decide_eq_true h1,h3];rfl))
 ·refine ZdY.2 (.step (ZdY.1 (h.s k hk)) ?_)
  unfold chB
  simp only[Bool.and_eq_true,decide_eq_true_eq,Bool.not_eq_true',beq_eq_false_iff_ne,Bool.or_eq_true]
  exact ⟨h1,h2,.inl h3⟩
theorem BInv.meet {p:El Zc} {l:List Acc} {a d:Nat} {C G B C' B':Nat→Bool} {O O':List Int} {c:Nat} (h:BInv p l a C G B O) (hc:C c=true) (hd:behB p l c d=true) (hl:d < l.length)
  (hC:∀j,C' j=true↔C j=true∨(0≤j∧j < 0+l.length∧clB l d j=true∧thA l j≠thA l a)) (hB:∀j,B' j=true↔B j=true∨(0≤j∧j < 0+l.length∧clB l d j=true∧thA l j=thA l a∧(d:Int)≠(a:Int)))
  (hO:∀y∈O',y∈O∨∃j:Nat,y=(j:Int)∧C' j=true):BInv p l a C' (fun k=>G k || (k==d)) B' O':=by
 have hth:=ZOF hd
 have hne:=((h.c c).1 hc).2.1
 have hdis:isB p l a d=true:=by
  refine ZdY.2 (.step (ZdY.1 (h.is hc)) ?_)
  unfold chB
  simp only[Bool.and_eq_true,decide_eq_true_eq,Bool.not_eq_true',beq_eq_false_iff_ne,Bool.or_eq_true]
  exact ⟨hl,by rw[hth.2];exact hne,.inr hd⟩
 have hg:∀k,(G k || (k==d))=true↔G k=true∨k=d:=fun k=>by rw[Bool.or_eq_true,beq_iff_eq]
 refine ⟨fun j=>?_,fun j hj=>?_,fun y hy=>?_,fun j=>?_,fun j hj=>?_⟩
 ·rw[hC,h.c]
  constructor
  ·rintro (⟨h1,h2,h3⟩ | ⟨_,h1,h2,h3⟩)
   ·exact ⟨h1,h2,h3.imp id fun ⟨k,hk,h4⟩=>⟨k,(hg k).2 (.inl hk),h4⟩⟩
   ·exact ⟨by omega,h3,.inr ⟨d,(hg d).2 (.inr rfl),h2⟩⟩
  ·rintro ⟨h1,h2,h3⟩
   rcases h3 with h3 | ⟨k,hk,h3⟩
   ·exact .inl ⟨h1,h2,.inl h3⟩
   ·rcases (hg k).1 hk with hk | rfl
    ·exact .inl ⟨h1,h2,.inr ⟨k,hk,h3⟩⟩
    ·exact .inr ⟨Nat.zero_le _,by omega,h3,h2⟩
 ·rcases (hg j).1 hj with hj | rfl
  ·obtain ⟨c',h1,h2⟩:=h.g j hj
   exact ⟨c',(hC c').2 (.inl h1),h2⟩
  ·exact ⟨c,(hC c).2 (.inl hc),hd⟩
 ·rcases hO y hy with hy | hy
  ·obtain ⟨c',h1,h2⟩:=h.o y hy
   exact ⟨c',h1,(hC c').2 (.inl h2)⟩
  ·exact hy
 ·rw[hB,h.b]
  constructor
  ·rintro (⟨h1,h2,k,hk,h3⟩ | ⟨_,h1,h2,h3,_⟩)
   ·exact ⟨h1,h2,k,(hg k).2 (.inl hk),h3⟩
   ·exact ⟨by omega,h3,d,(hg d).2 (.inr rfl),h2⟩
  ·rintro ⟨h1,h2,k,hk,h3⟩
   rcases (hg k).1 hk with hk | rfl
   ·exact .inl ⟨h1,h2,k,hk,h3⟩
   ·refine .inr ⟨Nat.zero_le _,by omega,h3,h2,fun e=>hne ?_⟩
    have:k=a:=by omega
    subst this
    rw[←hth.2]
 ·rcases (hg j).1 hj with hj | rfl
  ·exact h.s j hj
  ·exact hdis
theorem ZJb (p:El Zc) (a:Int) (hk:ZhB p a=true):Goes (Zfi p a) (Zpt p a) (ZbI p a):=by
 have hA:=smallA hk
 have hNl:=ZNU hk
 have kt:ZoF p=true:=hk
 have vt:ZD p=ofC p:=rfl
 have hacc:∀c,c < (ofC p).length→0≤thA (ofC p) c∧thA (ofC p) c < (p.2.length:Int)∧flowOK (thrOf p (ofC p) c)=true:=fun c hc=>by
  have hm:accA (ofC p) c∈ofC p:=by unfold accA;rw[ZH hc];exact List.getElem_mem hc
  obtain ⟨u,x,j,i,h1,h2,h3,h4,h5⟩:=ZKo hm
  have hth:thA (ofC p) c=(u:Int):=h4
  have hu:=(List.getElem?_eq_some_iff.1 h1).1
  have hx:x∈p.2:=List.mem_of_getElem? h1
  refine ⟨by omega,by omega,?_⟩
  unfold thrOf
  rw[hth,Int.toNat_natCast,List.getD_eq_getElem?_getD,h1]
  exact Ztw (hA.thr x hx)
 obtain ⟨l,hl⟩:∃l,ofC p=l:=⟨_,rfl⟩
 rw[hl] at hNl vt hacc
 obtain ⟨T,hT⟩:∃T,T=Zfi p a:=⟨_,rfl⟩
 rw[←hT]
 unfold Zpt ZbI
 rw[Ze,if_pos kt,vt,hl,Ze]
 by_cases h0:a < 0
 ·rw[if_pos (decide_eq_true h0),if_neg (by omega)];exact .leaf
 rw[if_neg (by simpa using h0),Ze]
 by_cases h1:a≥Int.ofNat l.length
 ·rw[if_pos (decide_eq_true h1),if_neg (by simp at h1;omega)];exact .leaf
 obtain ⟨a,rfl⟩:=Int.eq_ofNat_of_zero_le (show 0≤a by omega)
 have ha:a < l.length:=by simp at h1;omega
 rw[if_neg (by simpa using h1),Ze,if_pos (Zas ha),Ze,Int.toNat_natCast]
 have hval:(if (0:Int)≤(a:Int)∧(a:Int) < (l.length:Int) then listOf l.length (backB p l a) else [])=listOf l.length (backB p l a):=if_pos ⟨by omega,by omega⟩
 rw[hval]
 have hown:(List.getD l a (dflt Zb)).1=thA l a:=rfl
 have hnew:Zy (Int.ofNat l.length)=(((l.length:Nat):Int),[]):=by
  unfold Zy
  simp
  omega
 rw[hown,hnew]
 have kb:∀(x:Nat) (come:SetT) (o:List Int) (b:SetT),x < l.length→o.length < 1099511627776→Zgc (x:Int) l (thA l a) come o (a:Int) b=true:=fun x come o b hx ho=>decide_eq_true ⟨by omega,by omega,by omega,ho⟩
 have fin:∀(C G B:Nat→Bool) (sc sg sb:SetT),SetOK sb l.length B→BInv p l a C G B []→
   (∀c,C c=true→(c:Int)∈([]:List Int)∨∀d,behB p l c d=true→G d=true)→Goes T (.jmp (.l11 l sb.1 [] (thA l a) (a:Int) sb.2 sc.1 sc.2 sg.1 sg.2)) (listOf l.length (backB p l a)):=by
  intro C G B sc sg sb hb hi hp
  rw[Zi,hT,Zfi,←hT,Ze,if_neg (by decide)]
  have hkl:Zbm (sb.1,sb.2)=true:=Nat.ble_eq_true_of_le (by have:=hb.few;unfold limit;show sb.2.length*512≤_;omega)
  rw[Ze,if_pos hkl]
  have hGi:∀d,G d=isB p l a d:=ZQM hi.c (fun d=>⟨hi.g d,fun ⟨c,h1,h2⟩=>(hp c h1).elim (fun h=>by cases h) fun h=>h d h2⟩) hi.s
  have hv:(ZbP (sb.1,sb.2)).1=listOf l.length (backB p l a):=by
   show listS sb=_
   rw[hb.list (by omega)]
   refine ZsN fun j hj=>?_
   unfold backB
   rw[Bool.eq_iff_iff,hi.b,Bool.and_eq_true,beq_iff_eq,List.any_eq_true]
   constructor
   ·rintro ⟨_,h2,k,hk,h3⟩
    rw[hGi] at hk
    exact ⟨h2,k,List.mem_range.2 (ZQX hk).1,by rw[hk,h3];rfl⟩
   ·rintro ⟨h2,k,_,h3⟩
    rw[Bool.and_eq_true] at h3
    exact ⟨hj,h2,k,by rw[hGi];exact h3.1,h3.2⟩
  rw[hv]
  exact .leaf
 have loop:∀m,∀(C G B:Nat→Bool) (sc sg sb:SetT) (O:List Int),2*(l.length - card l.length C)+O.length≤m→O.length≤card l.length C→SetOK sc l.length C→SetOK sg l.length G→SetOK sb l.length B→BInv p l a C G B O→
   (∀c,C c=true→(c:Int)∈O∨∀d,behB p l c d=true→G d=true)→Goes T (.jmp (.l11 l sb.1 O (thA l a) (a:Int) sb.2 sc.1 sc.2 sg.1 sg.2)) (listOf l.length (backB p l a)):=by
  intro m
  induction m with
  | zero=>
   intro C G B sc sg sb O hm hO1 hc hg hb hi hp
   have:O=[]:=List.eq_nil_of_length_eq_zero (by omega)
   subst this
   exact fin C G B sc sg sb hb hi hp
  | succ m ih=>
   intro C G B sc sg sb O hm hO1 hc hg hb hi hp
   cases O with
   | nil=>exact fin C G B sc sg sb hb hi hp
   | cons x O=>
    obtain ⟨c,rfl,hCc⟩:=hi.o x (by simp)
    have hcl:=((hi.c c).1 hCc).1
    have hcard:= @ZeU l.length C
    obtain ⟨q1,q2,q3⟩:=hacc c hcl
    have kbh:Zec p l (c:Int)=true:=by
     unfold Zec
     rw[Int.toNat_natCast,q3,decide_eq_true ⟨by omega,by omega,by omega⟩,decide_eq_true ⟨q1,q2⟩];rfl
    have e0:List.getD ((c:Int) :: O) 0 (dflt (.int .i64))=(c:Int):=rfl
    have g1:decide (Int.ofNat ((c:Int) :: O).length > (0:Int))=true:=decide_eq_true (by simp <;> omega)
    have g2:decide ((0:Int) < Int.ofNat ((c:Int) :: O).length)=true:=decide_eq_true (by simp <;> omega)
    have g3:Nat.ble 1 ((c:Int) :: O).length=true:=Nat.ble_eq_true_of_le (by simp)
    rw[Zi,hT,Zfi,←hT,Ze,if_pos g1,Ze,if_pos g2,Ze,if_pos g3,e0,Ze,if_pos kbh]
    obtain ⟨L,hL⟩:∃L,Zb7 p l (c:Int)=L:=⟨_,rfl⟩
    have hLm:∀y,y∈L↔∃d:Nat,d < l.length∧behB p l c d=true∧y=(d:Int):=fun y=>by rw[←hL];unfold Zb7;rw[Int.toNat_natCast];exact Zcv
    have hLl:L.length≤l.length:=by rw[←hL];unfold Zb7;rw[Zif];exact ZeU
    rw[hL,show List.drop 1 ((c:Int) :: O)=O from rfl]
    have inner:∀h,h≤L.length→∀(C G B:Nat→Bool) (sc sg sb:SetT) (O:List Int),2*(l.length - card l.length C)+O.length≤m→O.length≤card l.length C→SetOK sc l.length C→SetOK sg l.length G→SetOK sb l.length B→BInv p l a C G B O→C c=true→
      (∀c',C c'=true→c'≠c→(c':Int)∈O∨∀d,behB p l c' d=true→G d=true)→(∀d,behB p l c d=true→G d=true∨(d:Int)∈L.drop h)→
      Goes T (.jmp (.l17 (Int.ofNat L.length) l L sb.1 O (thA l a) (a:Int) sb.2 sc.1 sc.2 (h:Int) sg.1 sg.2)) (listOf l.length (backB p l a)):=by
     refine down ?_ fun h hh ih2=>?_
     ·intro C G B sc sg sb O hm hO1 hc hg hb hi hCc hp hcur
      rw[Zi,hT,Zfi,←hT,Ze,if_neg (by simp)]
      refine ih C G B sc sg sb O hm hO1 hc hg hb hi fun c' hc'=>?_
      by_cases e:c'=c
      ·subst e
       right
       intro d hd
       rcases hcur d hd with h1 | h1
       ·exact h1
       ·rw[List.drop_length] at h1;cases h1
      ·exact hp c' hc' e
     ·intro C G B sc sg sb O hm hO1 hc hg hb hi hCc hp hcur
      obtain ⟨d,hd,hbd,hde⟩:=(hLm L[h]).1 (List.getElem_mem hh)
      have hcard:= @ZeU l.length C
      obtain ⟨p1,p2⟩:=hg.putO (by omega) hd
      have hput:Zp (sg.1,sg.2) (d:Int)=putS sg (d:Int):=rfl
      have hkb:=kb d (sc.1,sc.2) O (sb.1,sb.2) hd (by omega)
      rw[Zi,hT,Zfi,←hT,Ze,if_pos (ZO hh),Ze,if_pos (Zas hh),Int.toNat_natCast,ZH hh,hde,hput,Zo (by omega),Ze]
      have hdrop:=ZN hh
      cases hGd:G d with
      | true=>
       rw[hGd] at p1
       rw[if_neg (by rw[p1];decide)]
       have e:∀k,(G k || (k==d))=G k:=fun k=>by
        by_cases hk:k=d
        ·subst hk;rw[hGd];rfl
        ·have:(k==d)=false:=by simpa using hk
         rw[this,Bool.or_false]
       refine ih2 C G B sc _ sb O hm hO1 hc (p2.congr' e) hb hi hCc hp fun d' hd'=>?_
       rcases hcur d' hd' with h1 | h1
       ·exact .inl h1
       ·rw[hdrop] at h1
        rcases List.mem_cons.1 h1 with h1 | h1
        ·rw[hde] at h1
         have:d'=d:=by omega
         subst this
         exact .inl hGd
        ·exact .inr h1
      | false=>
       rw[hGd] at p1
       rw[if_pos (by rw[p1];rfl),Ze,if_pos hkb]
       obtain ⟨C',B',b1,b2,b3,b4,b5,b6,b7,b8⟩:=ZF9 (l:=l) (x:=d) (own:=thA l a) (a:=(a:Int)) l.length 0 (sc,O,sb) C B (by omega) (by omega) hc hb
       have hv:ZW (d:Int) l (thA l a) (sc.1,sc.2) O (a:Int) (sb.1,sb.2)=(l,thA l a,(meetF l (d:Int) (thA l a) (a:Int) (List.range' 0 l.length) (sc,O,sb)).1,(meetF l (d:Int) (thA l a) (a:Int) (List.range' 0 l.length) (sc,O,sb)).2.1,(a:Int),(meetF l (d:Int) (thA l a) (a:Int) (List.range' 0 l.length) (sc,O,sb)).2.2):=rfl
       rw[hv]
       generalize meetF l (d:Int) (thA l a) (a:Int) (List.range' 0 l.length) (sc,O,sb)=R at*
       have hi':=hi.meet (O':=R.2.1) hCc hbd hd b3 b4 b6
       have hcl2:= @ZeU l.length C'
       simp only at b5 b6 b7 b8
       have b8':R.2.1.length+card l.length C=O.length+card l.length C':=b8
       have hcm:card l.length C≤card l.length C':=ZJt fun j h=>(b3 j).2 (.inl h)
       have m1:2*(l.length - card l.length C')+R.2.1.length≤m:=by omega
       have m2:R.2.1.length≤card l.length C':=by omega
       refine ih2 C' _ B' R.1 _ R.2.2 R.2.1 m1 m2 b1 p2 b2 hi' ((b3 c).2 (.inl hCc)) (fun c' hc' hne=>?_) fun d' hd'=>?_
       ·rcases b7 c' hc' with h1 | h1
        ·rcases hp c' h1 hne with h2 | h2
         ·exact .inl (b5 _ h2)
         ·exact .inr fun d'' hd''=>by rw[h2 d'' hd''];rfl
        ·exact .inl h1
       ·rcases hcur d' hd' with h1 | h1
        ·left;rw[h1];rfl
        ·rw[hdrop] at h1
         rcases List.mem_cons.1 h1 with h1 | h1
         ·rw[hde] at h1
          have:d'=d:=by omega
          subst this
          left;simp
         ·exact .inr h1
    refine inner 0 (Nat.zero_le _) C G B sc sg sb O (by simp at hm;omega) (by simp at hO1;omega) hc hg hb ⟨hi.c,hi.g,fun y hy=>hi.o y (List.mem_cons_of_mem _ hy),hi.b,hi.s⟩ hCc (fun c' hc' hne=>?_) fun d hd=>?_
    ·rcases hp c' hc' with h1 | h1
     ·rcases List.mem_cons.1 h1 with h1 | h1
      ·exact absurd (by omega) hne
      ·exact .inl h1
     ·exact .inr h1
    ·exact .inr (by rw[List.drop_zero];exact (hLm _).2 ⟨d,(ZOF hd).1,hd,rfl⟩)
 rw[if_pos (kb a _ [] _ ha (by simp))]
 obtain ⟨C',B',b1,b2,b3,b4,b5,b6,b7,b8⟩:=ZF9 (l:=l) (x:=a) (own:=thA l a) (a:=(a:Int)) l.length 0 ((((l.length:Nat):Int),[]),[],(((l.length:Nat):Int),[])) (fun _=>false) (fun _=>false) (by omega) (by omega) (SetOK.new _) (SetOK.new _)
 have hv:ZW (a:Int) l (thA l a) (((l.length:Nat):Int),[]) [] (a:Int) (((l.length:Nat):Int),[])=(l,thA l a,(meetF l (a:Int) (thA l a) (a:Int) (List.range' 0 l.length) ((((l.length:Nat):Int),[]),[],(((l.length:Nat):Int),[]))).1,(meetF l (a:Int) (thA l a) (a:Int) (List.range' 0 l.length) ((((l.length:Nat):Int),[]),[],(((l.length:Nat):Int),[]))).2.1,(a:Int),(meetF l (a:Int) (thA l a) (a:Int) (List.range' 0 l.length) ((((l.length:Nat):Int),[]),[],(((l.length:Nat):Int),[]))).2.2):=rfl
 rw[hv]
 generalize meetF l (a:Int) (thA l a) (a:Int) (List.range' 0 l.length) ((((l.length:Nat):Int),[]),[],(((l.length:Nat):Int),[]))=R at*
 simp only at b5 b6 b7 b8
 have hcl2:= @ZeU l.length C'
 have h00:card l.length (fun _=>false)=0:=by unfold card;simp
 rw[h00] at b8
 refine loop _ C' (fun _=>false) B' R.1 (((l.length:Nat):Int),[]) R.2.2 R.2.1 (Nat.le_refl _) (by simp at b8;omega) b1 (SetOK.new _) b2 ⟨fun c=>?_,fun d hd=>(by cases hd),fun y hy=>?_,fun b=>?_,fun d hd=>(by cases hd)⟩ fun c hc=>?_
 ·rw[b3]
  constructor
  ·rintro (h | ⟨_,h1,h2,h3⟩)
   ·cases h
   ·exact ⟨by omega,h3,.inl h2⟩
  ·rintro ⟨h1,h2,h3 | ⟨k,hk,_⟩⟩
   ·exact .inr ⟨Nat.zero_le _,by omega,h3,h2⟩
   ·cases hk
 ·rcases b6 y hy with h | h
  ·cases h
  ·exact h
 ·rw[b4]
  constructor
  ·rintro (h | ⟨_,_,_,_,h⟩)
   ·cases h
   ·exact absurd rfl h
  ·rintro ⟨_,_,k,hk,_⟩
   cases hk
 ·rcases b7 c hc with h | h
  ·cases h
  ·exact .inl h
end Go.Ev
end

section
open Go Go.Ev
namespace Go.Ev
noncomputable section
noncomputable def Zyd:Run:=entG ZfN Zm9 (fun a=>ZhB a.1 a.2.1) (fun a=>ZbI a.1 a.2.1)
theorem ZG0:EntOK Go.Proofs.Tryz.prog 55 Zyd:=ZI (tb:=ZpP) (c:=Znt) ZGP (by kernel_rfl) (by kernel_rfl) (by kernel_rfl) (fun a=>by kernel_rfl) fun ⟨p,a,_⟩ hk=>Zl (c:=Znt) (K:=fun v=>(Zm9 v,tps (toForms ZfN (p,a,())))) (S:=Ze0 p a) (by kernel_rfl) (ZFQ p a) (ZF2 p a) (ZJb p a hk)
end
end Go.Ev
end

section
open Go Go.Ev
namespace Go.Ev
noncomputable section
def dpB:Code:=Go.Proofs.Tryz.f26.body.getD .skip
def lpR1 (K:Code):Code:=fstC (innC (innC K))
def lpB (K:Code):Code:=innC (fstC (sndC (sndC (innC (innC K)))))
def lpR2 (K:Code):Code:=sndC (sndC (sndC (innC (innC K))))
def dp0:Code:=fstC dpB
def dp1:Code:=fstC (sndC dpB)
def dp2:Code:=fstC (sndC (sndC dpB))
def dp3:Code:=fstC (fstC (sndC (sndC (sndC dpB))))
def dpK0:Code:=sndC (fstC (sndC (sndC (sndC dpB))))
def dpE:Code:=fstC (sndC (sndC (sndC (sndC dpB))))
def dpT:Tbl:=[(49,ZxT),(50,Zwj),(51,Zk5),(52,Zvs),(53,ZcW),(54,Zgr),(55,Zyd)]
theorem ZQ7:∀p∈dpT,EntOK Go.Proofs.Tryz.prog p.1 p.2:=Zg Zz1 (Zg ZDg (Zg Zlc (Zg Zy6 (Zg Zce (Zg Zfe (Zg ZG0 (Zt)))))))
theorem ZQ0:dpB=.seq dp0 (.seq dp1 (.seq dp2 (.seq (.seq dp3 dpK0) (.seq dpE .ret)))):=by kernel_rfl
theorem ZQm:dpK0=.block 0 (.loop (.seq (lpR1 dpK0) (.seq (.cond (.tmp 23) .skip (.exit 0)) (.seq (.block 1 (lpB dpK0)) (lpR2 dpK0))))):=by kernel_rfl
def dp4:Code:=fstC (lpB dpK0)
def dp5:Code:=fstC (sndC (lpB dpK0))
def dp6:Code:=fstC (sndC (sndC (lpB dpK0)))
def dpK2:Code:=sndC (sndC (sndC (lpB dpK0)))
theorem ZQi:lpB dpK0=.seq dp4 (.seq (.region (ridC dp5) (ropsC dp5) false) (.seq dp6 dpK2)):=by kernel_rfl
theorem ZQk:dpK2=.block 2 (.loop (.seq (lpR1 dpK2) (.seq (.cond (.tmp 32) .skip (.exit 2)) (.seq (.block 3 (lpB dpK2)) (lpR2 dpK2))))):=by kernel_rfl
def dp7:Code:=fstC (lpB dpK2)
def dp8:Code:=fstC (sndC (lpB dpK2))
def dp9:Code:=fstC (fstC (sndC (sndC (lpB dpK2))))
def dpK4:Code:=sndC (fstC (sndC (sndC (lpB dpK2))))
def dp10:Code:=fstC (sndC (sndC (sndC (lpB dpK2))))
def dpK6:Code:=sndC (sndC (sndC (sndC (lpB dpK2))))
theorem ZQe:lpB dpK2=.seq dp7 (.seq dp8 (.seq (.seq dp9 dpK4) (.seq dp10 dpK6))):=by kernel_rfl
theorem ZQI:dpK4=.block 4 (.loop (.seq (lpR1 dpK4) (.seq (.cond (.tmp 56) .skip (.exit 4)) (.seq (.block 5 (lpB dpK4)) (lpR2 dpK4))))):=by kernel_rfl
theorem ZQG:dpK6=.block 6 (.loop (.seq (lpR1 dpK6) (.seq (.cond (.tmp 68) .skip (.exit 6)) (.seq (.block 7 (lpB dpK6)) (lpR2 dpK6))))):=by kernel_rfl
def dp11:Code:=fstC (lpB dpK6)
def dp12:Code:=fstC (fstC (sndC (lpB dpK6)))
def dpX1:Code:=fstC (sndC (sndC (lpB dpK6)))
def dp13:Code:=fstC dpX1
def dpY:Code:=thenC (sndC dpX1)
def dp14:Code:=fstC dpY
def dp15:Code:=fstC (sndC dpY)
def dpK8:Code:=sndC (sndC dpY)
def dp16:Code:=fstC (sndC (sndC (sndC (lpB dpK6))))
def dp17:Code:=thenC (sndC (sndC (sndC (sndC (lpB dpK6)))))
theorem ZQL:lpB dpK6=.seq dp11 (.seq (.seq dp12 (.cond (.tmp 78) (.exit 7) .skip)) (.seq (.seq (.region (ridC dp13) (ropsC dp13) false) (.cond (.tmp 82) (.seq (.region (ridC dp14) (ropsC dp14) false) (.seq dp15 dpK8)) .skip)) (.seq (.region (ridC dp16) (ropsC dp16) false) (.cond (.tmp 106) dp17 .skip)))):=by kernel_rfl
theorem ZQj:dpK8=.block 8 (.loop (.seq (lpR1 dpK8) (.seq (.cond (.tmp 93) .skip (.exit 8)) (.seq (.block 9 (lpB dpK8)) (lpR2 dpK8))))):=by kernel_rfl
def dp18:Code:=fstC (lpB dpK8)
def dp19:Code:=sndC (lpB dpK8)
theorem ZQH:lpB dpK8=.seq dp18 (.region (ridC dp19) (ropsC dp19) false):=by kernel_rfl
abbrev SetD:=Int×List (El (.int .i64)×El (.int .u64))
def dObP (p:El Zc):Id×Nat×Obj:=(2,0,.box 27 [.d (.sl Zx) p.1,.d (.sl (.sl Za)) p.2] none)
def dObO (out:List (El Zd)):Id×Nat×Obj:=(5,0,.row 70 Zd out false)
def stA (p:El Zc) (l:List (El Zb)) (out:List (El Zd)) (t:Int):St:=
 ⟨mkTm 126 [(1,.pt 2 0 0),(3,.d (.sl Zb) l),(4,.own 5 0 none),(21,.d (.int .i64) (Int.ofNat (List.length p.2))),(22,.d (.int .i64) t)],[dObP p,dObO out]⟩
def labA:Lab:=⟨[1,3,4,21,22],[(5,118)]⟩
def stA5 (p:El Zc) (l:List (El Zb)) (out:List (El Zd)) (t:Int):St:=
 ⟨mkTm 126 [(1,.pt 2 0 0),(3,.d (.sl Zb) l),(4,.own 5 0 none),(5,.d (.int .i64) t),(21,.d (.int .i64) (Int.ofNat (List.length p.2))),(22,.d (.int .i64) t)],[dObP p,dObO out]⟩
def labA5:Lab:=⟨[1,3,4,5,21,22],[(5,118)]⟩
def stB (p:El Zc) (l:List (El Zb)) (out:List (El Zd)) (t:Int) (m:Nat) (ss:List Int) (k:Int):St:=
 ⟨mkTm 126 [(1,.pt 2 0 0),(3,.d (.sl Zb) l),(4,.own 5 0 none),(5,.d (.int .i64) t),(7,.cst (.map (some m))),(21,.d (.int .i64) (Int.ofNat (List.length p.2))),(22,.d (.int .i64) t),(29,.own 30 0 none),(30,.d (.int .i64) (Int.ofNat (List.length ss))),(31,.d (.int .i64) k)],[dObP p,dObO out,(30,0,.row 3 (.int .i64) ss false)]⟩
def labB:Lab:=⟨[1,3,4,5,7,21,22,29,30,31],[(5,118)]⟩
def stB9 (p:El Zc) (l:List (El Zb)) (out:List (El Zd)) (t:Int) (m:Nat) (ss:List Int) (k s:Int):St:=
 ⟨mkTm 126 [(1,.pt 2 0 0),(3,.d (.sl Zb) l),(4,.own 5 0 none),(5,.d (.int .i64) t),(7,.cst (.map (some m))),(9,.d (.int .i64) s),(21,.d (.int .i64) (Int.ofNat (List.length p.2))),(22,.d (.int .i64) t),(29,.own 30 0 none),(30,.d (.int .i64) (Int.ofNat (List.length ss))),(31,.d (.int .i64) k)],[dObP p,dObO out,(30,0,.row 3 (.int .i64) ss false)]⟩
def labB9:Lab:=⟨[1,3,4,5,7,9,21,22,29,30,31],[(5,118)]⟩
def stB10 (p:El Zc) (l:List (El Zb)) (out:List (El Zd)) (t:Int) (m:Nat) (ss:List Int) (k s:Int) (fr:SetD):St:=
 ⟨mkTm 126 [(1,.pt 2 0 0),(3,.d (.sl Zb) l),(4,.own 5 0 none),(5,.d (.int .i64) t),(7,.cst (.map (some m))),(9,.d (.int .i64) s),(10,.pt 11 0 0),(21,.d (.int .i64) (Int.ofNat (List.length p.2))),(22,.d (.int .i64) t),(29,.own 30 0 none),(30,.d (.int .i64) (Int.ofNat (List.length ss))),(31,.d (.int .i64) k)],[dObP p,dObO out,(11,0,.box 117 [.d (.int .i64) fr.1,.mp 11266 0] none),(30,0,.row 3 (.int .i64) ss false),(11266,0,.map (.int .i64) (.int .u64) fr.2)]⟩
def labB10:Lab:=⟨[1,3,4,5,7,9,10,21,22,29,30,31],[(5,118)]⟩
def stC (p:El Zc) (l:List (El Zb)) (out:List (El Zd)) (t:Int) (m:Nat) (ss:List Int) (k s:Int) (fr:SetD) (fs:List Int) (j:Int):St:=
 ⟨mkTm 126 [(1,.pt 2 0 0),(3,.d (.sl Zb) l),(4,.own 5 0 none),(5,.d (.int .i64) t),(7,.cst (.map (some m))),(9,.d (.int .i64) s),(10,.pt 11 0 0),(21,.d (.int .i64) (Int.ofNat (List.length p.2))),(22,.d (.int .i64) t),(29,.own 30 0 none),(30,.d (.int .i64) (Int.ofNat (List.length ss))),(31,.d (.int .i64) k),(53,.own 54 0 none),(54,.d (.int .i64) (Int.ofNat (List.length fs))),(55,.d (.int .i64) j)],[dObP p,dObO out,(11,0,.box 117 [.d (.int .i64) fr.1,.mp 11266 0] none),(30,0,.row 3 (.int .i64) ss false),(54,0,.row 3 (.int .i64) fs false),(11266,0,.map (.int .i64) (.int .u64) fr.2)]⟩
def labC:Lab:=⟨[1,3,4,5,7,9,10,21,22,29,30,31,53,54,55],[(5,118)]⟩
def stD (p:El Zc) (l:List (El Zb)) (out:List (El Zd)) (t:Int) (m:Nat) (ss:List Int) (k s:Int) (fr:SetD) (ls:List Int) (j:Int):St:=
 ⟨mkTm 126 [(1,.pt 2 0 0),(3,.d (.sl Zb) l),(4,.own 5 0 none),(5,.d (.int .i64) t),(7,.cst (.map (some m))),(9,.d (.int .i64) s),(10,.pt 11 0 0),(21,.d (.int .i64) (Int.ofNat (List.length p.2))),(22,.d (.int .i64) t),(29,.own 30 0 none),(30,.d (.int .i64) (Int.ofNat (List.length ss))),(31,.d (.int .i64) k),(65,.own 66 0 none),(66,.d (.int .i64) (Int.ofNat (List.length ls))),(67,.d (.int .i64) j)],[dObP p,dObO out,(11,0,.box 117 [.d (.int .i64) fr.1,.mp 11266 0] none),(30,0,.row 3 (.int .i64) ss false),(66,0,.row 3 (.int .i64) ls false),(11266,0,.map (.int .i64) (.int .u64) fr.2)]⟩
def labD:Lab:=⟨[1,3,4,5,7,9,10,21,22,29,30,31,65,66,67],[(5,118)]⟩
def stD14 (p:El Zc) (l:List (El Zb)) (out:List (El Zd)) (t:Int) (m:Nat) (ss:List Int) (k s:Int) (fr:SetD) (ls:List Int) (j r:Int):St:=
 ⟨mkTm 126 [(1,.pt 2 0 0),(3,.d (.sl Zb) l),(4,.own 5 0 none),(5,.d (.int .i64) t),(7,.cst (.map (some m))),(9,.d (.int .i64) s),(10,.pt 11 0 0),(14,.d (.int .i64) r),(21,.d (.int .i64) (Int.ofNat (List.length p.2))),(22,.d (.int .i64) t),(29,.own 30 0 none),(30,.d (.int .i64) (Int.ofNat (List.length ss))),(31,.d (.int .i64) k),(65,.own 66 0 none),(66,.d (.int .i64) (Int.ofNat (List.length ls))),(67,.d (.int .i64) j)],[dObP p,dObO out,(11,0,.box 117 [.d (.int .i64) fr.1,.mp 11266 0] none),(30,0,.row 3 (.int .i64) ss false),(66,0,.row 3 (.int .i64) ls false),(11266,0,.map (.int .i64) (.int .u64) fr.2)]⟩
def labD14:Lab:=⟨[1,3,4,5,7,9,10,14,21,22,29,30,31,65,66,67],[(5,118)]⟩
def stE (p:El Zc) (l:List (El Zb)) (out:List (El Zd)) (t:Int) (m:Nat) (ss:List Int) (k s:Int) (fr:SetD) (ls:List Int) (j r:Int) (bs:List Int) (i:Int):St:=
 ⟨mkTm 126 [(1,.pt 2 0 0),(3,.d (.sl Zb) l),(4,.own 5 0 none),(5,.d (.int .i64) t),(7,.cst (.map (some m))),(9,.d (.int .i64) s),(10,.pt 11 0 0),(14,.d (.int .i64) r),(21,.d (.int .i64) (Int.ofNat (List.length p.2))),(22,.d (.int .i64) t),(29,.own 30 0 none),(30,.d (.int .i64) (Int.ofNat (List.length ss))),(31,.d (.int .i64) k),(65,.own 66 0 none),(66,.d (.int .i64) (Int.ofNat (List.length ls))),(67,.d (.int .i64) j),(90,.own 91 0 none),(91,.d (.int .i64) (Int.ofNat (List.length bs))),(92,.d (.int .i64) i)],[dObP p,dObO out,(11,0,.box 117 [.d (.int .i64) fr.1,.mp 11266 0] none),(30,0,.row 3 (.int .i64) ss false),(66,0,.row 3 (.int .i64) ls false),(91,0,.row 3 (.int .i64) bs false),(11266,0,.map (.int .i64) (.int .u64) fr.2)]⟩
def labE:Lab:=⟨[1,3,4,5,7,9,10,14,21,22,29,30,31,65,66,67,90,91,92],[(5,118)]⟩
end
end Go.Ev
end

section
open Go Go.Ev
namespace Go.Ev
noncomputable section
abbrev dEv (c:Code) (lab:Lab) (s s':St):Prop:=∀(L:Lt) (k:Kt) (x:Nat→Kt) (r:Kt),evC Go.Proofs.Tryz.prog (clOf dpT) [] L c 0 (fun t=>k (norm Go.Proofs.Tryz.prog lab t)) x r s=k s'
abbrev dEvI (c:Code) (s s':St):Prop:=∀(L:Lt) (k:Kt) (x:Nat→Kt) (r:Kt),evC Go.Proofs.Tryz.prog (clOf dpT) [] L c 0 (fun t=>k t) x r s=k s'
abbrev dEvG (c:Code) (lab:Lab) (s s':St) (b:Bool):Prop:=∀(L:Lt) (k:Kt) (x:Nat→Kt) (r:Kt),evC Go.Proofs.Tryz.prog (clOf dpT) [] L c 0 (fun t=>k (norm Go.Proofs.Tryz.prog lab t)) x r s=bif b then k s' else none
theorem dEvG.ok {c:Code} {lab:Lab} {s s':St} {b:Bool} (h:dEvG c lab s s' b) (hb:b=true):dEv c lab s s':=fun L k x r=>by rw[h,hb];rfl
section
variable (p:El Zc) (l:List (El Zb)) (out:List (El Zd)) (t:Int) (m:Nat) (ss:List Int) (k s:Int) (fr:SetD) (fs:List Int) (j:Int) (ls:List Int) (r:Int) (bs:List Int) (i:Int) (b:Bool)
def dS0:St:=⟨.ag [.d (.sl Zx) p.1,.d (.sl (.sl Za)) p.2] :: tops 125,[]⟩
def dS1:St:=⟨mkTm 126 [(1,.pt 2 0 0)],[dObP p]⟩
def dS2:St:=⟨mkTm 126 [(1,.pt 2 0 0),(3,.d (.sl Zb) l)],[dObP p]⟩
def dS3:St:=⟨mkTm 126 [(1,.pt 2 0 0),(3,.d (.sl Zb) l),(4,.own 5 0 none)],[dObP p,dObO []]⟩
@[reducible] def inB (i:Int) (n:Nat):Bool:=decide ((0:Int)≤i)&&decide (i < Int.ofNat n)
theorem dp_0:dEv dp0 ⟨[1],[]⟩ (dS0 p) (dS1 p):=fun L k x r=>by kernel_rfl
theorem dp_1:dEvG dp1 ⟨[1,3],[]⟩ (dS1 p) (dS2 p (ZD p)) (ZoF p):=fun L k x r=>by kernel_rfl
theorem dp_2:dEv dp2 ⟨[1,3,4],[(5,118)]⟩ (dS2 p l) (dS3 p l):=fun L k x r=>by kernel_rfl
theorem dp_3:dEv dp3 labA (dS3 p l) (stA p l [] 0):=fun L k x r=>by kernel_rfl
theorem ZRr:dEvI (lpR1 dpK0) (stA p l out t) ((stA p l out t).put (some 23) (.d .bool (decide (t < Int.ofNat (List.length p.2))))):=fun L k x r=>by kernel_rfl
theorem dp_4:dEv dp4 labA5 ((stA p l out t).put (some 23) (.d .bool b)) (stA5 p l out t):=fun L k x r=>by kernel_rfl
theorem ZRp:dEvI (lpR1 dpK2) (stB p l out t m ss k) ((stB p l out t m ss k).put (some 32) (.d .bool (decide (k < Int.ofNat (List.length ss))))):=fun L k x r=>by kernel_rfl
theorem dp_7:dEvG dp7 labB9 ((stB p l out t m ss k).put (some 32) (.d .bool b)) (stB9 p l out t m ss k (List.getD ss (Int.toNat k) (dflt (.int .i64)))) (inB k (List.length ss)):=fun L k x r=>by kernel_rfl
theorem dp_8:dEvG dp8 labB10 (stB9 p l out t m ss k s) (stB10 p l out t m ss k s (Zy (Int.ofNat (List.length (List.getD p.2 (Int.toNat t) (dflt (.sl Za))))))) (inB t (List.length p.2)):=fun L k x r=>by kernel_rfl
theorem dp_9:dEvG dp9 labC (stB10 p l out t m ss k s fr) (stC p l out t m ss k s fr (ZbA (List.getD p.2 (Int.toNat t) (dflt (.sl Za))) (List.getD l (Int.toNat s) (dflt Zb)).2.1) 0) (bif inB t (List.length p.2) then (bif inB s (List.length l) then ZiU (List.getD p.2 (Int.toNat t) (dflt (.sl Za))) (List.getD l (Int.toNat s) (dflt Zb)).2.1 else false) else false):=fun L k x r=>by
 rw[show ∀(a b c:Bool) (u:Option Ans),(bif (bif a then (bif b then c else false) else false) then u else none)=(bif a then (bif b then (bif c then u else none) else none) else none) from fun a b c u=>by cases a <;> cases b <;> rfl]
 kernel_rfl
theorem ZRw:dEvI (lpR1 dpK4) (stC p l out t m ss k s fr fs j) ((stC p l out t m ss k s fr fs j).put (some 56) (.d .bool (decide (j < Int.ofNat (List.length fs))))):=fun L k x r=>by kernel_rfl
theorem ZRq:dEvG (lpB dpK4) labC ((stC p l out t m ss k s fr fs j).put (some 56) (.d .bool b)) (stC p l out t m ss k s (Zp fr (List.getD fs (Int.toNat j) (dflt (.int .i64)))).2 fs j) (inB j (List.length fs)):=fun L k x r=>by kernel_rfl
theorem ZRm:dEv (lpR2 dpK4) labC (stC p l out t m ss k s fr fs j) (stC p l out t m ss k s fr fs (IntKind.i64.wrap (j+1))):=fun L k x r=>by kernel_rfl
theorem ZRd:dEvG dp10 labD ((stC p l out t m ss k s fr fs j).put (some 56) (.d .bool b)) (stD p l out t m ss k s fr (ZT l t false) 0) (ZdT l t false):=fun L k x r=>by kernel_rfl
theorem ZRk:dEvI (lpR1 dpK6) (stD p l out t m ss k s fr ls j) ((stD p l out t m ss k s fr ls j).put (some 68) (.d .bool (decide (j < Int.ofNat (List.length ls))))):=fun L k x r=>by kernel_rfl
theorem ZRv:dEvG dp11 labD14 ((stD p l out t m ss k s fr ls j).put (some 68) (.d .bool b)) (stD14 p l out t m ss k s fr ls j (List.getD ls (Int.toNat j) (dflt (.int .i64)))) (inB j (List.length ls)):=fun L k x r=>by kernel_rfl
def labD78:Lab:=⟨[1,3,4,5,7,9,10,14,21,22,29,30,31,65,66,67,78],[(5,118)]⟩
theorem ZRj:dEvG dp12 labD78 (stD14 p l out t m ss k s fr ls j r) ((stD14 p l out t m ss k s fr ls j r).put (some 78) (.d .bool (! (Zq fr (List.getD l (Int.toNat r) (dflt Zb)).2.1).1))) (inB r (List.length l)):=fun L k x r=>by kernel_rfl
theorem dn_D:norm Go.Proofs.Tryz.prog labD ((stD14 p l out t m ss k s fr ls j r).put (some 78) (.d .bool b))=stD p l out t m ss k s fr ls j:=by kernel_rfl
theorem ZQY:norm Go.Proofs.Tryz.prog labD14 ((stD14 p l out t m ss k s fr ls j r).put (some 78) (.d .bool b))=stD14 p l out t m ss k s fr ls j r:=by kernel_rfl
theorem ZRf:dEv (lpR2 dpK6) labD (stD p l out t m ss k s fr ls j) (stD p l out t m ss k s fr ls (IntKind.i64.wrap (j+1))):=fun L k x r=>by kernel_rfl
theorem ZRu:dEvG dp15 labE (stD14 p l out t m ss k s fr ls j r) (stE p l out t m ss k s fr ls j r (ZbI p r) 0) (ZhB p r):=fun L k x r=>by kernel_rfl
theorem ZRn:dEvI (lpR1 dpK8) (stE p l out t m ss k s fr ls j r bs i) ((stE p l out t m ss k s fr ls j r bs i).put (some 93) (.d .bool (decide (i < Int.ofNat (List.length bs))))):=fun L k x r=>by kernel_rfl
def labE16:Lab:=⟨[1,3,4,5,7,9,10,14,16,21,22,29,30,31,65,66,67,90,91,92],[(5,118)]⟩
theorem ZRx:dEvG dp18 labE16 ((stE p l out t m ss k s fr ls j r bs i).put (some 93) (.d .bool b)) ((stE p l out t m ss k s fr ls j r bs i).put (some 16) (.d (.int .i64) (List.getD bs (Int.toNat i) (dflt (.int .i64))))) (inB i (List.length bs)):=fun L k x r=>by kernel_rfl
theorem ZRg:dEv (lpR2 dpK8) labE (stE p l out t m ss k s fr ls j r bs i) (stE p l out t m ss k s fr ls j r bs (IntKind.i64.wrap (i+1))):=fun L k x r=>by kernel_rfl
theorem ZRc:norm Go.Proofs.Tryz.prog labD14 ((stE p l out t m ss k s fr ls j r bs i).put (some 93) (.d .bool b))=stD14 p l out t m ss k s fr ls j r:=by kernel_rfl
theorem ZRt:dEv (lpR2 dpK2) labB ((stD p l out t m ss k s fr ls j).put (some 68) (.d .bool b)) (stB p l out t m ss (IntKind.i64.wrap (k+1))):=fun L k x r=>by kernel_rfl
theorem ZRB:dEv (lpR2 dpK0) labA ((stB p l out t m ss k).put (some 32) (.d .bool b)) (stA p l out (IntKind.i64.wrap (t+1))):=fun L k x r=>by kernel_rfl
end
end
end Go.Ev
end

section
open Go Go.Ev
namespace Go.Ev
noncomputable section
section
variable [Orgs] {Mod F0:Nat→Prop} {w0:World} {h:HS} {a:Act} {w:World} {Q:Exit→Act→World→Prop}
variable {p:El Zc} {l:List (El Zb)} {out:List (El Zd)} {t:Int} {m:Nat} {ss:List Int} {k s:Int} {fr:SetD} {fs:List Int} {j:Int} {ls:List Int} {r:Int} {bs:List Int} {i x:Int} {b:Bool}
theorem dcl:Spec Go.Proofs.Tryz.prog (clOf dpT)∧DetC (clOf dpT):=Zp1 ZQ7
abbrev dProg:Program:=Go.Proofs.Tryz.prog
def cOf (o:Oper):Call:=match o.op with |.call c=>c | _=>default
def st5a (p:El Zc) (l:List (El Zb)) (out:List (El Zd)) (t:Int):St:=((stA5 p l out t).put (some 25) (.d (.sl Zb) l)).put (some 26) (.d (.int .i64) t)
def st5b (p:El Zc) (l:List (El Zb)) (out:List (El Zd)) (t:Int) (ss:List Int):St:=((st5a p l out t).setOb 28 0 (.row 3 (.int .i64) ss false)).put (some 27) (.own 28 0 none)
def st5c (p:El Zc) (l:List (El Zb)) (out:List (El Zd)) (t:Int) (ss:List Int) (m:Nat):St:=(((st5b p l out t ss).put (some 28) (.cst (.map (some m)))).put (some 6) (.own 28 0 none)).put (some 7) (.cst (.map (some m)))
theorem ZRh (k:St→Option Ans):opA dProg (clOf dpT) (opC dp5 2) (st5a p l out t) k=bif ZdT l t true then k (st5b p l out t (ZT l t true)) else none:=by kernel_rfl
theorem dp_6:dEv dp6 labB (st5c p l out t ss m) (stB p l out t m ss 0):=fun L k x r=>by kernel_rfl
theorem w_5 (hk:ZdT l t true=true) (hr:Rel Mod F0 w0 (stA5 p l out t) a w) (hQ:∀m a' w',RelH 117 Mod F0 w0 ⟨m,[]⟩ (st5c p l out t (ZT l t true) m) a' w'→Q .normal a' w'):(Code.region (ridC dp5) (ropsC dp5) false).wp dProg Q a w:=by
 refine wp_region ?_
 rw[show List.range (ropsC dp5).size=[0,1,2,3,4,5] from by kernel_rfl]
 refine evOp dcl.1 (o:=opC dp5 0) (st1:=(stA5 p l out t).put (some 25) (.d (.sl Zb) l)) (by kernel_rfl) (by kernel_rfl) (fun k=>by kernel_rfl) hr fun a w hr=>?_
 refine evOp dcl.1 (o:=opC dp5 1) (st1:=st5a p l out t) (by kernel_rfl) (by kernel_rfl) (fun k=>by kernel_rfl) hr fun a w hr=>?_
 refine evOp dcl.1 (o:=opC dp5 2) (st1:=st5b p l out t (ZT l t true)) (by kernel_rfl) (by kernel_rfl) (fun k=>by rw[ZRh,hk];rfl) hr fun a w hr=>?_
 refine handOp (o:=opC dp5 3) (by kernel_rfl) (by kernel_rfl) ?_
 refine makeMapH (T:=117) (TM:=85) (by kernel_rfl) hr fun m a w hr=>?_
 rw[show (opC dp5 3).dst=some 28 from by kernel_rfl] at hr
 refine evOpH dcl.1 (o:=opC dp5 4) (st1:=((st5b p l out t (ZT l t true)).put (some 28) (.cst (.map (some m)))).put (some 6) (.own 28 0 none)) (by kernel_rfl) (by kernel_rfl) (fun k=>by kernel_rfl) hr fun a w hr=>?_
 refine evOpH dcl.1 (o:=opC dp5 5) (st1:=st5c p l out t (ZT l t true) m) (by kernel_rfl) (by kernel_rfl) (fun k=>by kernel_rfl) hr fun a w hr=>?_
 exact hQ m a w hr
def st13 (p:El Zc) (l:List (El Zb)) (out:List (El Zd)) (t:Int) (m:Nat) (ss:List Int) (k s:Int) (fr:SetD) (ls:List Int) (j r:Int) (v:Value) (b:Bool):St:=
 ((((stD14 p l out t m ss k s fr ls j r).put (some 79) (.cst (.map (some m)))).put (some 80) (.d (.int .i64) r)).put (some 81) (.cst v)).put (some 82) (.d .bool b)
theorem ZRe (v:Value):norm dProg labD14 (st13 p l out t m ss k s fr ls j r v b)=stD14 p l out t m ss k s fr ls j r:=by kernel_rfl
theorem w_13 (hr:RelH 117 Mod F0 w0 h (stD14 p l out t h.m ss k s fr ls j r) a w) (hQ:∀a' w',RelH 117 Mod F0 w0 h (st13 p l out t h.m ss k s fr ls j r (ptrOf (h.at_ r)) (h.at_ r).isNone) a' w'→Q .normal a' w'):(Code.region (ridC dp13) (ropsC dp13) false).wp dProg Q a w:=by
 refine wp_region ?_
 rw[show List.range (ropsC dp13).size=[0,1,2,3] from by kernel_rfl]
 refine evOpH dcl.1 (o:=opC dp13 0) (st1:=(stD14 p l out t h.m ss k s fr ls j r).put (some 79) (.cst (.map (some h.m)))) (by kernel_rfl) (by kernel_rfl) (fun k=>by kernel_rfl) hr fun a w hr=>?_
 refine evOpH dcl.1 (o:=opC dp13 1) (st1:=((stD14 p l out t h.m ss k s fr ls j r).put (some 79) (.cst (.map (some h.m)))).put (some 80) (.d (.int .i64) r)) (by kernel_rfl) (by kernel_rfl) (fun k=>by kernel_rfl) hr fun a w hr=>?_
 refine handOp (o:=opC dp13 2) (by kernel_rfl) (by kernel_rfl) ?_
 refine lookupH (TM:=85) (K:=3) (V:=86) (x:=.tmp 79) (k:=.tmp 80) (key:=r) (by kernel_rfl) (by kernel_rfl) (by kernel_rfl) (by kernel_rfl) (by kernel_rfl) (by kernel_rfl) hr fun a w hr=>?_
 rw[show (opC dp13 2).dst=some 81 from by kernel_rfl] at hr
 refine handOp (o:=opC dp13 3) (by kernel_rfl) (by kernel_rfl) ?_
 refine eqNilH (TT:=86) (TT':=(match (opC dp13 3).op with |.binOp _ _ _ _ T=>T | _=>0)) (E:=(match dProg.underlying 86 with | some (.pointer E)=>E | _=>0)) (x:=.tmp 81) (y:=.const (.pointer none)) (s:=h.at_ r) (by kernel_rfl) (by kernel_rfl) (by kernel_rfl) (by kernel_rfl) hr fun a w hr=>?_
 rw[show (opC dp13 3).dst=some 82 from by kernel_rfl] at hr
 exact hQ a w hr
def st14 (p:El Zc) (l:List (El Zb)) (out:List (El Zd)) (t:Int) (m:Nat) (ss:List Int) (k s:Int) (fr:SetD) (ls:List Int) (j r:Int):St:=
 ((((stD14 p l out t m ss k s fr ls j r).put (some 83) (.cst (.map (some m)))).put (some 84) (.d (.int .i64) r)).put (some 85) (.d (.sl Zb) l)).put (some 86) (.d (.int .i64) (Int.ofNat (List.length l)))
def st14b (p:El Zc) (l:List (El Zb)) (out:List (El Zd)) (t:Int) (m:Nat) (ss:List Int) (k s:Int) (fr:SetD) (ls:List Int) (j r:Int) (d:SetD):St:=
 (((st14 p l out t m ss k s fr ls j r).setOb 90114 0 (.map (.int .i64) (.int .u64) d.2)).setOb 88 0 (.box 117 [.d (.int .i64) d.1,.mp 90114 0] none)).put (some 87) (.pt 88 0 0)
theorem ZRy (d:SetD) (o:Option Nat) (ho:o=none):norm dProg labD14 ((dropIds [88,90114] (st14b p l out t m ss k s fr ls j r d)).put o .top)=stD14 p l out t m ss k s fr ls j r:=by
 subst ho
 kernel_rfl
theorem w_14 (hn:h.at_ r=none) (hr:RelH 117 Mod F0 w0 h (stD14 p l out t h.m ss k s fr ls j r) a w)
  (hQ:∀e a' w',e.key=r→(e.n,e.l)=Zy (Int.ofNat (List.length l))→RelH 117 Mod F0 w0 ⟨h.m,h.es++[e]⟩ (stD14 p l out t h.m ss k s fr ls j r) a' w'→Q .normal a' w'):(Code.region (ridC dp14) (ropsC dp14) false).wp dProg Q a w:=by
 refine wp_region ?_
 rw[show List.range (ropsC dp14).size=[0,1,2,3,4,5] from by kernel_rfl]
 refine evOpH dcl.1 (o:=opC dp14 0) (st1:=(stD14 p l out t h.m ss k s fr ls j r).put (some 83) (.cst (.map (some h.m)))) (by kernel_rfl) (by kernel_rfl) (fun k=>by kernel_rfl) hr fun a w hr=>?_
 refine evOpH dcl.1 (o:=opC dp14 1) (st1:=((stD14 p l out t h.m ss k s fr ls j r).put (some 83) (.cst (.map (some h.m)))).put (some 84) (.d (.int .i64) r)) (by kernel_rfl) (by kernel_rfl) (fun k=>by kernel_rfl) hr fun a w hr=>?_
 refine evOpH dcl.1 (o:=opC dp14 2) (st1:=(((stD14 p l out t h.m ss k s fr ls j r).put (some 83) (.cst (.map (some h.m)))).put (some 84) (.d (.int .i64) r)).put (some 85) (.d (.sl Zb) l)) (by kernel_rfl) (by kernel_rfl) (fun k=>by kernel_rfl) hr fun a w hr=>?_
 refine evOpH dcl.1 (o:=opC dp14 3) (st1:=st14 p l out t h.m ss k s fr ls j r) (by kernel_rfl) (by kernel_rfl) (fun k=>by kernel_rfl) hr fun a w hr=>?_
 refine evOpH dcl.1 (o:=opC dp14 4) (st1:=st14b p l out t h.m ss k s fr ls j r (Zy (Int.ofNat (List.length l)))) (by kernel_rfl) (by kernel_rfl) (fun k=>by kernel_rfl) hr fun a w hr=>?_
 refine handOp (o:=opC dp14 5) (by kernel_rfl) (by kernel_rfl) ?_
 refine putH (TM:=85) (K:=3) (V:=86) (x:=.tmp 83) (k:=.tmp 84) (v:=.tmp 87) (key:=r) (id:=88) (ver:=0) (id2:=90114) (ver2:=0) (tg:=none) (n:=(Zy (Int.ofNat (List.length l))).1) (l:=(Zy (Int.ofNat (List.length l))).2)
  (by kernel_rfl) (by kernel_rfl) (by kernel_rfl) (by kernel_rfl) (by kernel_rfl) (by kernel_rfl) (by kernel_rfl) (by kernel_rfl) (by decide) hn hr fun b mb a w hr=>?_
 exact hQ _ a w rfl rfl (RelH.norm (ZRy _ _ (by kernel_rfl)) hr)
def st19 (p:El Zc) (l:List (El Zb)) (out:List (El Zd)) (t:Int) (m:Nat) (ss:List Int) (k s:Int) (fr:SetD) (ls:List Int) (j r:Int) (bs:List Int) (i x:Int) (v:Value):St:=
 (((((stE p l out t m ss k s fr ls j r bs i).put (some 16) (.d (.int .i64) x)).put (some 96) (.cst (.map (some m)))).put (some 97) (.d (.int .i64) r)).put (some 98) (.cst v)).put (some 99) (.d (.int .i64) x)
theorem ZRi (v:Value) (o:Option Nat) (ho:o=some 100):norm dProg labE ((st19 p l out t m ss k s fr ls j r bs i x v).put o (.d .bool b))=stE p l out t m ss k s fr ls j r bs i:=by
 subst ho
 kernel_rfl
theorem w_19 {e:SE} (he:h.at_ r=some e) (hr:RelH 117 Mod F0 w0 h ((stE p l out t h.m ss k s fr ls j r bs i).put (some 16) (.d (.int .i64) x)) a w)
  (hQ:∀h' a' w',h'.m=h.m→h'.cont=putC h.cont r (Zp (e.n,e.l) x).2→RelH 117 Mod F0 w0 h' (stE p l out t h'.m ss k s fr ls j r bs i) a' w'→Q .normal a' w'):(Code.region (ridC dp19) (ropsC dp19) false).wp dProg Q a w:=by
 refine wp_region ?_
 rw[show List.range (ropsC dp19).size=[0,1,2,3,4] from by kernel_rfl]
 refine evOpH dcl.1 (o:=opC dp19 0) (st1:=((stE p l out t h.m ss k s fr ls j r bs i).put (some 16) (.d (.int .i64) x)).put (some 96) (.cst (.map (some h.m)))) (by kernel_rfl) (by kernel_rfl) (fun k=>by kernel_rfl) hr fun a w hr=>?_
 refine evOpH dcl.1 (o:=opC dp19 1) (st1:=(((stE p l out t h.m ss k s fr ls j r bs i).put (some 16) (.d (.int .i64) x)).put (some 96) (.cst (.map (some h.m)))).put (some 97) (.d (.int .i64) r)) (by kernel_rfl) (by kernel_rfl) (fun k=>by kernel_rfl) hr fun a w hr=>?_
 refine handOp (o:=opC dp19 2) (by kernel_rfl) (by kernel_rfl) ?_
 refine lookupH (TM:=85) (K:=3) (V:=86) (x:=.tmp 96) (k:=.tmp 97) (key:=r) (by kernel_rfl) (by kernel_rfl) (by kernel_rfl) (by kernel_rfl) (by kernel_rfl) (by kernel_rfl) hr fun a w hr=>?_
 rw[show (opC dp19 2).dst=some 98 from by kernel_rfl] at hr
 refine evOpH dcl.1 (o:=opC dp19 3) (st1:=st19 p l out t h.m ss k s fr ls j r bs i x (ptrOf (h.at_ r))) (by kernel_rfl) (by kernel_rfl) (fun k=>by kernel_rfl) hr fun a w hr=>?_
 refine handOp (o:=opC dp19 4) (by kernel_rfl) (by kernel_rfl) ?_
 have hnd:(h.es.map SE.key).Nodup:=by obtain ⟨_,_,_,_,_,_,hH,_⟩:=hr;exact hH.2.1
 have hC:CallOK dProg 53 [.bx 117 [.d (.int .i64) e.n,.mv (.int .i64) (.int .u64) e.l],.d (.int .i64) x] (Zgl (Zp (e.n,e.l) x)):=ZMu Zce fun k=>by kernel_rfl
 refine callSetH (c:=cOf (opC dp19 4)) (f:=53) (fn:=Go.Proofs.Tryz.f53) (body:=Go.Proofs.Tryz.f53.body.getD .skip) (x:=.tmp 98) (y:=.tmp 99) (key:=r) (i:=x) (by kernel_rfl) (by kernel_rfl) (by kernel_rfl) (by kernel_rfl) (by kernel_rfl) (by kernel_rfl) (by kernel_rfl) he (by kernel_rfl) hC hr fun A B mb' a w hAB hr=>?_
 refine hQ ⟨h.m,A++⟨r,e.b,mb',(Zp (e.n,e.l) x).2.1,(Zp (e.n,e.l) x).2.2⟩ :: B⟩ a w rfl ?_ (RelH.norm (ZRi _ _ (by kernel_rfl)) hr)
 have hk:=(ZNN he).2
 have:=ZPx (A:=A) (B:=B) (e:=e) (b:=e.b) (mb:=mb') (n:=0) (n':=(Zp (e.n,e.l) x).2.1) (l':=(Zp (e.n,e.l) x).2.2) hk (by rw[←hAB];exact hnd) h.m h.m
 rw[this]
 have:(⟨h.m,A++e :: B⟩:HS)=h:=by cases h;simp only[HS.mk.injEq,true_and];exact hAB.symm
 rw[this]
def st16 (p:El Zc) (l:List (El Zb)) (out:List (El Zd)) (t:Int) (m:Nat) (ss:List Int) (k s:Int) (fr:SetD) (ls:List Int) (j r:Int) (v:Value) (b:Bool):St:=
 (((((stD14 p l out t m ss k s fr ls j r).put (some 102) (.cst (.map (some m)))).put (some 103) (.d (.int .i64) r)).put (some 104) (.cst v)).put (some 105) (.d (.int .i64) s)).put (some 106) (.d .bool b)
theorem ZRl (v:Value):norm dProg labD (st16 p l out t m ss k s fr ls j r v b)=stD p l out t m ss k s fr ls j:=by kernel_rfl
theorem w_16 {e:SE} (he:h.at_ r=some e) (hr:RelH 117 Mod F0 w0 h (stD14 p l out t h.m ss k s fr ls j r) a w)
  (hQ:∀h' a' w',h'.m=h.m→h'.cont=h.cont→RelH 117 Mod F0 w0 h' (st16 p l out t h'.m ss k s fr ls j r (ptrOf (h.at_ r)) (Zq (e.n,e.l) s).1) a' w'→Q .normal a' w'):(Code.region (ridC dp16) (ropsC dp16) false).wp dProg Q a w:=by
 refine wp_region ?_
 rw[show List.range (ropsC dp16).size=[0,1,2,3,4] from by kernel_rfl]
 refine evOpH dcl.1 (o:=opC dp16 0) (st1:=(stD14 p l out t h.m ss k s fr ls j r).put (some 102) (.cst (.map (some h.m)))) (by kernel_rfl) (by kernel_rfl) (fun k=>by kernel_rfl) hr fun a w hr=>?_
 refine evOpH dcl.1 (o:=opC dp16 1) (st1:=((stD14 p l out t h.m ss k s fr ls j r).put (some 102) (.cst (.map (some h.m)))).put (some 103) (.d (.int .i64) r)) (by kernel_rfl) (by kernel_rfl) (fun k=>by kernel_rfl) hr fun a w hr=>?_
 refine handOp (o:=opC dp16 2) (by kernel_rfl) (by kernel_rfl) ?_
 refine lookupH (TM:=85) (K:=3) (V:=86) (x:=.tmp 102) (k:=.tmp 103) (key:=r) (by kernel_rfl) (by kernel_rfl) (by kernel_rfl) (by kernel_rfl) (by kernel_rfl) (by kernel_rfl) hr fun a w hr=>?_
 rw[show (opC dp16 2).dst=some 104 from by kernel_rfl] at hr
 refine evOpH dcl.1 (o:=opC dp16 3) (st1:=((((stD14 p l out t h.m ss k s fr ls j r).put (some 102) (.cst (.map (some h.m)))).put (some 103) (.d (.int .i64) r)).put (some 104) (.cst (ptrOf (h.at_ r)))).put (some 105) (.d (.int .i64) s)) (by kernel_rfl) (by kernel_rfl) (fun k=>by kernel_rfl) hr fun a w hr=>?_
 refine handOp (o:=opC dp16 4) (by kernel_rfl) (by kernel_rfl) ?_
 have hnd:(h.es.map SE.key).Nodup:=by obtain ⟨_,_,_,_,_,_,hH,_⟩:=hr;exact hH.2.1
 have hC:CallOK dProg 54 [.bx 117 [.d (.int .i64) e.n,.mv (.int .i64) (.int .u64) e.l],.d (.int .i64) s] (Zgi (Zq (e.n,e.l) s)):=ZMu Zfe fun k=>by kernel_rfl
 refine callSetH (c:=cOf (opC dp16 4)) (f:=54) (fn:=Go.Proofs.Tryz.f54) (body:=Go.Proofs.Tryz.f54.body.getD .skip) (x:=.tmp 104) (y:=.tmp 105) (key:=r) (i:=s) (by kernel_rfl) (by kernel_rfl) (by kernel_rfl) (by kernel_rfl) (by kernel_rfl) (by kernel_rfl) (by kernel_rfl) he (by kernel_rfl) hC hr fun A B mb' a w hAB hr=>?_
 rw[show (opC dp16 4).dst=some 106 from by kernel_rfl] at hr
 refine hQ ⟨h.m,A++⟨r,e.b,mb',(Zq (e.n,e.l) s).2.1,(Zq (e.n,e.l) s).2.2⟩ :: B⟩ a w rfl ?_ hr
 have hk:=(ZNN he).2
 unfold HS.cont
 rw[hAB]
 simp only[List.map_append,List.map_cons,hk]
 rfl
theorem ZRA (v:Value):dEvG dp17 labD (st16 p l out t m ss k s fr ls j r v b) (stD p l (out++[(t,((List.getD l (Int.toNat s) (dflt Zb)).2.1,(List.getD l (Int.toNat r) (dflt Zb)).2.1))]) t m ss k s fr ls j)
  (bif inB s (List.length l) then (bif inB r (List.length l) then Nat.ble ((List.length out+1)*24) limit else false) else false):=fun L k x r=>by
 rw[show ∀(a b c:Bool) (u:Option Ans),(bif (bif a then (bif b then c else false) else false) then u else none)=(bif a then (bif b then (bif c then u else none) else none) else none) from fun a b c u=>by cases a <;> cases b <;> rfl]
 kernel_rfl
end
end
end Go.Ev
end

section
open Go Go.Ev
namespace Go.Ev
noncomputable section
def putAll (d:SetD) (xs:List Int):SetD:=xs.foldl (fun d x=>(Zp d x).2) d
def dBack (p:El Zc) (l:List (El Zb)) (r:Int):SetD:=putAll (Zy (Int.ofNat (List.length l))) (ZbI p r)
abbrev OkS (p:El Zc) (l:List (El Zb)) (ms:SetsD):Prop:=∀r d,getC ms r=some d→d=dBack p l r
abbrev OkBut (p:El Zc) (l:List (El Zb)) (ms:SetsD) (r:Int):Prop:=∀r',r'≠r→∀d,getC ms r'=some d→d=dBack p l r'
theorem ZP1 {ms:SetsD} {r:Int} {d d':SetD} (h:getC ms r=some d):getC (putC ms r d') r=some d':=by
 induction ms with
 | nil=>cases h
 | cons x ms ih=>
  unfold getC putC at*
  by_cases hx:x.1=r
  ·simp[hx]
  ·simp only[List.map_cons,hx,if_false]
   rw[List.find?_cons_of_neg (by simpa using hx)]
   rw[List.find?_cons_of_neg (by simpa using hx)] at h
   exact ih h
theorem ZLb {ms:SetsD} {r r':Int} {d':SetD} (hne:r'≠r):getC (putC ms r d') r'=getC ms r':=by
 induction ms with
 | nil=>rfl
 | cons x ms ih=>
  unfold getC putC at*
  by_cases hx:x.1=r
  ·have h1:¬r=r':=fun e=>hne e.symm
   have h2:¬x.1=r':=by rw[hx];exact h1
   simp only[List.map_cons,hx,if_true]
   rw[List.find?_cons_of_neg (by simpa using h1),List.find?_cons_of_neg (by simpa using h2)]
   exact ih
  ·simp only[List.map_cons,hx,if_false]
   by_cases hx':x.1=r'
   ·rw[List.find?_cons_of_pos (by simpa using hx'),List.find?_cons_of_pos (by simpa using hx')]
   ·rw[List.find?_cons_of_neg (by simpa using hx'),List.find?_cons_of_neg (by simpa using hx')]
    exact ih
theorem ZPR {ms:SetsD} {r:Int} {d:SetD} (h:getC ms r=none):getC (ms++[(r,d)]) r=some d:=by
 unfold getC at*
 rw[List.find?_append]
 rw[Option.map_eq_none_iff] at h
 rw[h]
 simp
theorem ZKz {ms:SetsD} {r r':Int} {d:SetD} (h:r'≠r):getC (ms++[(r,d)]) r'=getC ms r':=by
 unfold getC
 rw[List.find?_append]
 have:¬r=r':=fun e=>h e.symm
 simp[this]
theorem ZDV {i n:Nat} (h:i < n):inB (i:Int) n=true:=by
 unfold inB
 rw[decide_eq_true (Int.natCast_nonneg i),decide_eq_true (show (i:Int) < Int.ofNat n from Int.ofNat_lt.2 h)]
 rfl
theorem ZI4 (i n:Nat):decide ((i:Int) < Int.ofNat n)=decide (i < n):=decide_eq_decide.2 Int.ofNat_lt
section
variable [Orgs] {Mod F0:Nat→Prop} {w0:World} {h:HS} {a:Act} {w:World} {Q:Exit→Act→World→Prop}
variable {p:El Zc} {l:List (El Zb)} {out:List (El Zd)} {t:Int} {m:Nat} {ss:List Int} {k s:Int} {fr:SetD} {fs:List Int} {j:Int} {ls:List Int} {r:Int} {bs:List Int} {i x:Int} {b:Bool}
theorem w_K8 {d0:SetD} (hb:bs.length < 1000000000000) (ho:OkBut p l h.cont r) (hg:getC h.cont r=some d0) (hr:RelH 117 Mod F0 w0 h (stE p l out t h.m ss k s fr ls j r bs 0) a w)
  (hQ:∀h' a' w',OkBut p l h'.cont r→getC h'.cont r=some (putAll d0 bs)→RelH 117 Mod F0 w0 h' (stD14 p l out t h'.m ss k s fr ls j r) a' w'→Q .normal a' w'):dpK8.wp dProg Q a w:=by
 rw[ZQj]
 refine forLoop (fun i a w=>∃h:HS,OkBut p l h.cont r∧getC h.cont r=some (putAll d0 (bs.take i))∧RelH 117 Mod F0 w0 h (stE p l out t h.m ss k s fr ls j r bs (i:Int)) a w)
  (fun i a w=>∃h:HS,OkBut p l h.cont r∧getC h.cont r=some (putAll d0 (bs.take i))∧RelH 117 Mod F0 w0 h ((stE p l out t h.m ss k s fr ls j r bs (i:Int)).put (some 93) (.d .bool (decide ((i:Int) < Int.ofNat (List.length bs))))) a w)
  (fun i a w=>∃h:HS,OkBut p l h.cont r∧getC h.cont r=some (putAll d0 (bs.take (i+1)))∧RelH 117 Mod F0 w0 h (stE p l out t h.m ss k s fr ls j r bs (i:Int)) a w)
  bs.length (toGo 92 bs.length) ?_ ?_ ?_ ?_ ?_ ⟨h,ho,hg,hr⟩ ?_
 ·intro i a w hi ⟨h,ho,hg,hr⟩
  exact pieceH dcl.1 dcl.2 (fun s=>s) (fun h=>h) (ZRn _ _ _ _ _ _ _ _ _ _ _ _ _ _) hr fun a' w' hr'=>⟨rfl,h,ho,hg,hr'⟩
 ·intro i a w hi ⟨h,ho,hg,hr⟩
  rw[hr.evb (x:=.tmp 93) (b:=decide ((i:Int) < Int.ofNat (List.length bs))) (by kernel_rfl),ZI4]
 ·intro i a w hi ⟨h,ho,hg,hr⟩
  rw[ZQH]
  refine wp_seq (pieceH dcl.1 dcl.2 (norm dProg labE16) (fun h=>Z1 h) ((ZRx p l out t h.m ss k s fr j ls r bs (i:Int) _).ok (ZDV hi)) hr fun a w hr=>?_)
  have hat:=ZLS h r
  rw[hg] at hat
  obtain ⟨e,he,hed⟩:=Option.map_eq_some_iff.1 hat
  refine w_19 he hr fun h' a' w' hm hc hr'=>⟨.inl rfl,h',fun r' hr1 d hd=>?_,?_,hr'⟩
  ·rw[hc,ZLb hr1] at hd
   exact ho r' hr1 d hd
  ·rw[hc,ZP1 hg,hed,List.take_succ_eq_append_getElem hi]
   unfold putAll
   rw[List.foldl_append]
   simp only[List.foldl_cons,List.foldl_nil]
   rw[Int.toNat_natCast,List.getD_eq_getElem?_getD,List.getElem?_eq_getElem hi]
   rfl
 ·intro i a w hi ⟨h,ho,hg,hr⟩
  have e:=ZRg p l out t h.m ss k s fr j ls r bs (i:Int)
  rw[Zo (by omega)] at e
  exact pieceH dcl.1 dcl.2 (norm dProg labE) (fun h=>Z1 h) e hr fun a' w' hr'=>⟨rfl,h,ho,hg,hr'⟩
 ·intro i a w hi ⟨h,ho,hg,hr⟩
  unfold toGo
  rw[hr.ev (x:=.tmp 92) (k:=.i64) (n:=(i:Int)) (by kernel_rfl)]
  rfl
 ·intro a w ⟨h,ho,hg,hr⟩
  rw[List.take_length] at hg
  exact hQ h a w ho hg (hr.norm (ZRc _ _ _ _ _ _ _ _ _ _ _ _ _ _ _))
end
end
end Go.Ev
end

section
open Go Go.Ev
namespace Go.Ev
noncomputable section
def hitP (p:El Zc) (l:List (El Zb)) (s:Int) (fr:SetD) (r:Int):Bool:=(Zq fr (List.getD l (Int.toNat r) (dflt Zb)).2.1).1&&(Zq (dBack p l r) s).1
def oneP (p:El Zc) (l:List (El Zb)) (t s:Int) (fr:SetD) (r:Int):List (El Zd):=
 if hitP p l s fr r=true then [(t,((List.getD l (Int.toNat s) (dflt Zb)).2.1,(List.getD l (Int.toNat r) (dflt Zb)).2.1))] else []
section
variable [Orgs] {Mod F0:Nat→Prop} {w0:World} {h:HS} {a:Act} {w:World} {Q:Exit→Act→World→Prop}
variable {p:El Zc} {l:List (El Zb)} {out:List (El Zd)} {t:Int} {m:Nat} {ss:List Int} {k s:Int} {fr:SetD} {fs:List Int} {j:Int} {ls:List Int} {r:Int} {bs:List Int} {i x:Int} {b:Bool}
theorem ZGq {r:Int} {n:Nat} (h0:0≤r) (h1:r < (n:Int)):inB r n=true:=by
 unfold inB
 rw[decide_eq_true h0,decide_eq_true (show r < Int.ofNat n from h1)]
 rfl
theorem ZRo (hs:0≤s∧s < (l.length:Int)) (hrr:0≤r∧r < (l.length:Int)) (hlim:(out.length+1)*24≤limit) (hhas:(Zq fr (List.getD l (Int.toNat r) (dflt Zb)).2.1).1=true) (ho:OkS p l h.cont) (hg:getC h.cont r=some (dBack p l r))
  (hr:RelH 117 Mod F0 w0 h (stD14 p l out t h.m ss k s fr ls j r) a w) (hQ:∀h' a' w',OkS p l h'.cont→RelH 117 Mod F0 w0 h' (stD p l (out++oneP p l t s fr r) t h'.m ss k s fr ls j) a' w'→Q .normal a' w'):
  (Code.seq (.region (ridC dp16) (ropsC dp16) false) (.cond (.tmp 106) dp17 .skip)).wp dProg Q a w:=by
 have hat:=ZLS h r
 rw[hg] at hat
 obtain ⟨e,he,hed⟩:=Option.map_eq_some_iff.1 hat
 refine wp_seq (w_16 he hr fun h' a w hm hc hr=>?_)
 have ho':OkS p l h'.cont:=by rw[hc];exact ho
 have hone:hitP p l s fr r=(Zq (e.n,e.l) s).1:=by unfold hitP;rw[hhas,hed];rfl
 refine wp_cond_split (t:=(Zq (e.n,e.l) s).1) (hr.evb (x:=.tmp 106) (by kernel_rfl)) (fun ht=>?_) (fun hf=>?_)
 ·refine pieceH dcl.1 dcl.2 (norm dProg labD) (fun h=>Z1 h) ((ZRA _).ok ?_) hr fun a w hr=>hQ h' a w ho' ?_
  ·rw[ZGq hs.1 hs.2,ZGq hrr.1 hrr.2]
   exact Nat.ble_eq_true_of_le hlim
  ·unfold oneP
   rw[if_pos (hone.trans ht)]
   exact hr
 ·refine wp_skip (hQ h' a w ho' ?_)
  unfold oneP
  rw[if_neg (by rw[hone,hf];decide),List.append_nil]
  exact hr.norm (ZRl _)
theorem w_B7 {j:Nat} (hj:j < ls.length) (hrd:List.getD ls j (dflt (.int .i64))=r) (hs:0≤s∧s < (l.length:Int)) (hrr:0≤r∧r < (l.length:Int)) (hlim:(out.length+1)*24≤limit) (hkb:ZhB p r=true) (hbl:(ZbI p r).length < 1000000000000) (ho:OkS p l h.cont)
  (hr:RelH 117 Mod F0 w0 h ((stD p l out t h.m ss k s fr ls (j:Int)).put (some 68) (.d .bool b)) a w):
  (lpB dpK6).wp dProg (fun e a' w'=>(e=.normal∨e=.exit 7)∧∃h':HS,OkS p l h'.cont∧RelH 117 Mod F0 w0 h' (stD p l (out++oneP p l t s fr r) t h'.m ss k s fr ls (j:Int)) a' w') a w:=by
 rw[ZQL]
 refine wp_seq (pieceH dcl.1 dcl.2 (norm dProg labD14) (fun h=>Z1 h) ((ZRv p l out t h.m ss k s fr (j:Int) ls b).ok (ZDV hj)) hr fun a w hr=>?_)
 rw[Int.toNat_natCast,hrd] at hr
 refine wp_seq (wp_seq (pieceH dcl.1 dcl.2 (norm dProg labD78) (fun h=>Z1 h) ((ZRj p l out t h.m ss k s fr (j:Int) ls r).ok (ZGq hrr.1 hrr.2)) hr fun a w hr=>?_))
 refine wp_cond_split (t:=! (Zq fr (List.getD l (Int.toNat r) (dflt Zb)).2.1).1) (hr.evb (x:=.tmp 78) (by kernel_rfl)) (fun ht=>?_) (fun hf=>?_)
 ·-- not behind it
  refine wp_exit ⟨.inr rfl,h,ho,?_⟩
  have:¬hitP p l s fr r=true:=by
   unfold hitP
   rw[Bool.not_eq_true'] at ht
   rw[ht,Bool.false_and];exact Bool.false_ne_true
  unfold oneP
  rw[if_neg this,List.append_nil]
  exact hr.norm (dn_D _ _ _ _ _ _ _ _ _ _ _ _ _)
 refine wp_skip ?_
 have hhas:(Zq fr (List.getD l (Int.toNat r) (dflt Zb)).2.1).1=true:=by simpa using hf
 have hr:=hr.norm (ZQY p l out t h.m ss k s fr (j:Int) ls r _)
 have fin:∀(h':HS) (a:Act) (w:World),OkS p l h'.cont→getC h'.cont r=some (dBack p l r)→RelH 117 Mod F0 w0 h' (stD14 p l out t h'.m ss k s fr ls (j:Int) r) a w→
   (Code.seq (.region (ridC dp16) (ropsC dp16) false) (.cond (.tmp 106) dp17 .skip)).wp dProg (fun e a' w'=>(e=.normal∨e=.exit 7)∧∃h':HS,OkS p l h'.cont∧RelH 117 Mod F0 w0 h' (stD p l (out++oneP p l t s fr r) t h'.m ss k s fr ls (j:Int)) a' w') a w:=fun h' a w ho hg hr=>
  ZRo hs hrr hlim hhas ho hg hr fun h'' a'' w'' ho'' hr''=>⟨.inl rfl,h'',ho'',hr''⟩
 refine wp_seq (wp_seq (w_13 hr fun a w hr=>?_))
 have hev:=hr.evb (x:=.tmp 82) (b:=(h.at_ r).isNone) (by kernel_rfl)
 have hr:=hr.norm (ZRe _)
 have hat:=ZLS h r
 cases hc:h.at_ r with
 | none=>
  rw[hc] at hev hat
  refine wp_cond_true hev (wp_seq (w_14 hc hr fun e a w hek hed hr=>?_))
  refine wp_seq (pieceH dcl.1 dcl.2 (norm dProg labE) (fun h=>Z1 h) ((ZRu p l out t h.m ss k s fr (j:Int) ls r).ok hkb) hr fun a w hr=>?_)
  have hnone:getC h.cont r=none:=hat.symm
  have hcont:(⟨h.m,h.es++[e]⟩:HS).cont=h.cont++[(r,Zy (Int.ofNat (List.length l)))]:=by
   unfold HS.cont
   rw[List.map_append]
   simp only[List.map_cons,List.map_nil,hek]
   rw[show (e.n,e.l)=Zy (Int.ofNat (List.length l)) from hed]
  refine w_K8 (h:=⟨h.m,h.es++[e]⟩) (d0:=Zy (Int.ofNat (List.length l))) hbl ?_ ?_ hr fun h' a w ho' hg' hr'=>?_
  ·intro r' hne d hd
   rw[hcont,ZKz hne] at hd
   exact ho r' d hd
  ·rw[hcont];exact ZPR hnone
  ·refine fin h' a w (fun r' d hd=>?_) hg' hr'
   by_cases e:r'=r
   ·subst e
    rw[hg'] at hd
    exact (Option.some.inj hd).symm
   ·exact ho' r' e d hd
 | some e=>
  rw[hc] at hev hat
  have hg:getC h.cont r=some (e.n,e.l):=hat.symm
  have:=ho r _ hg
  exact wp_cond_false hev (wp_skip (fin h a w ho (by rw[hg,this]) hr))
end
end
end Go.Ev
end

section
open Go Go.Ev
namespace Go.Ev
noncomputable section
def insP (p:El Zc) (t:Int):List (El Za):=List.getD p.2 (Int.toNat t) (dflt (.sl Za))
def insL (l:List (El Zb)) (s:Int):Int:=(List.getD l (Int.toNat s) (dflt Zb)).2.1
def frS (p:El Zc) (l:List (El Zb)) (t s:Int):SetD:=putAll (Zy (Int.ofNat (List.length (insP p t)))) (ZbA (insP p t) (insL l s))
def outS (p:El Zc) (l:List (El Zb)) (t s:Int):List (El Zd):=(ZT l t false).flatMap (oneP p l t s (frS p l t s))
def outT (p:El Zc) (l:List (El Zb)) (t:Int):List (El Zd):=(ZT l t true).flatMap (outS p l t)
theorem Zk7 {n:Nat} {M:Nat→Bool} :(listOf n M).length≤n:=by rw[Zif];exact ZeU
theorem ZMg (p:El Zc) (l:List (El Zb)) (t s:Int) (fr:SetD) (r:Int):(oneP p l t s fr r).length≤1:=by
 unfold oneP
 split <;> simp
theorem ZpO {α β:Type} {f:α→List β} {n:Nat} (h:∀x,(f x).length≤n):∀l:List α,(l.flatMap f).length≤l.length*n
 | []=>by simp
 | x :: l=>by
  have:=ZpO h l
  have:=h x
  rw[List.flatMap_cons,List.length_append,List.length_cons,Nat.add_mul]
  omega
theorem ZMk (p:El Zc) (l:List (El Zb)) (t s:Int):(outS p l t s).length≤l.length:=by
 have h1:=ZpO (ZMg p l t s (frS p l t s)) (ZT l t false)
 have h2:(ZT l t false).length≤l.length:=Zk7
 unfold outS
 omega
theorem ZPv (p:El Zc) (l:List (El Zb)) (t:Int):(outT p l t).length≤l.length*l.length:=by
 have h1:=ZpO (ZMk p l t) (ZT l t true)
 have h2:(ZT l t true).length≤l.length:=Zk7
 have h3:=Nat.mul_le_mul_right l.length h2
 unfold outT
 omega
theorem ZJl {α β:Type} {f:α→List β} {l:List α} {k:Nat} (hk:k < l.length) {x:α} (hx:l[k]? =some x):(l.take (k+1)).flatMap f=(l.take k).flatMap f++f x:=by
 rw[List.take_add_one,hx]
 simp
section
variable [Orgs] {Mod F0:Nat→Prop} {w0:World} {h:HS} {a:Act} {w:World} {Q:Exit→Act→World→Prop}
variable {p:El Zc} {l:List (El Zb)} {out:List (El Zd)} {t:Int} {m:Nat} {ss:List Int} {k s:Int} {fr:SetD} {fs:List Int} {j:Int} {ls:List Int} {r:Int} {bs:List Int} {i x:Int} {b:Bool}
theorem ZED {ls:List Int} {j:Nat} (hj:j < ls.length):ls[j]? =some (List.getD ls j (dflt (.int .i64)))∧List.getD ls j (dflt (.int .i64))∈ls:=by
 have h:ls[j]? =some (List.getD ls j (dflt (.int .i64))):=by rw[List.getD_eq_getElem?_getD,List.getElem?_eq_getElem hj];rfl
 exact ⟨h,List.mem_of_getElem? h⟩
theorem lim1 {o f j n L:Nat} (h:(o+n+1)*24≤L) (h1:f≤min j n*1):(o+f+1)*24≤L:=Nat.le_trans (Nat.mul_le_mul_right _ (Nat.add_le_add_right (Nat.add_le_add_left (Nat.le_trans h1 (by rw[Nat.mul_one];exact Nat.min_le_right _ _)) _) _)) h
theorem lim2 {a b:Nat} (h:a≤b) (h1:b < 1000000000):a < 1000000000000:=Nat.lt_of_le_of_lt h (Nat.lt_trans h1 (by decide))
theorem lim3 {o a b L:Nat} (h:a≤b) (h1:(o+b+1)*24≤L):(o+a+1)*24≤L:=Nat.le_trans (Nat.mul_le_mul_right _ (Nat.add_le_add_right (Nat.add_le_add_left h _) _)) h1
attribute [local irreducible] stA stA5 stB stB9 stB10 stC stD stD14 stE St.put
theorem w_K6 (hs:0≤s∧s < (l.length:Int)) (hls:∀r∈ls,(0≤r∧r < (l.length:Int))∧ZhB p r=true∧(ZbI p r).length < 1000000000000) (hlen:ls.length < 1000000000000) (hlim:(out.length+ls.length+1)*24≤limit) (ho:OkS p l h.cont)
  (hr:RelH 117 Mod F0 w0 h (stD p l out t h.m ss k s fr ls 0) a w)
  (hQ:∀h' j b a' w',OkS p l h'.cont→RelH 117 Mod F0 w0 h' ((stD p l (out++ls.flatMap (oneP p l t s fr)) t h'.m ss k s fr ls j).put (some 68) (.d .bool b)) a' w'→Q .normal a' w'):dpK6.wp dProg Q a w:=by
 rw[ZQG]
 refine forLoop (fun j a w=>∃h:HS,OkS p l h.cont∧RelH 117 Mod F0 w0 h (stD p l (out++(ls.take j).flatMap (oneP p l t s fr)) t h.m ss k s fr ls (j:Int)) a w)
  (fun j a w=>∃h:HS,OkS p l h.cont∧RelH 117 Mod F0 w0 h ((stD p l (out++(ls.take j).flatMap (oneP p l t s fr)) t h.m ss k s fr ls (j:Int)).put (some 68) (.d .bool (decide ((j:Int) < Int.ofNat (List.length ls))))) a w)
  (fun j a w=>∃h:HS,OkS p l h.cont∧RelH 117 Mod F0 w0 h (stD p l (out++(ls.take (j+1)).flatMap (oneP p l t s fr)) t h.m ss k s fr ls (j:Int)) a w)
  ls.length (toGo 67 ls.length) ?_ ?_ ?_ ?_ ?_ ⟨h,ho,by simpa using hr⟩ ?_
 ·intro j a w hj ⟨h,ho,hr⟩
  exact pieceH dcl.1 dcl.2 (fun s=>s) (fun h=>h) (ZRk _ _ _ _ _ _ _ _ _ _ _) hr fun a' w' hr'=>⟨rfl,h,ho,hr'⟩
 ·intro j a w hj ⟨h,ho,hr⟩
  rw[hr.evb (x:=.tmp 68) (b:=decide ((j:Int) < Int.ofNat (List.length ls))) (by kernel_rfl),ZI4]
 ·intro j a w hj ⟨h,ho,hr⟩
  obtain ⟨g1,g2⟩:=ZED hj
  obtain ⟨q1,q2,q3⟩:=hls _ g2
  rw[ZJl hj g1,←List.append_assoc]
  refine w_B7 hj rfl hs q1 ?_ q2 q3 ho hr
  have h1:=ZpO (ZMg p l t s fr) (ls.take j)
  rw[List.length_append]
  rw[List.length_take] at h1
  exact lim1 hlim h1
 ·intro j a w hj ⟨h,ho,hr⟩
  have e:=ZRf p l (out++(ls.take (j+1)).flatMap (oneP p l t s fr)) t h.m ss k s fr (j:Int) ls
  rw[Zo (by omega)] at e
  exact pieceH dcl.1 dcl.2 (norm dProg labD) (fun h=>Z1 h) e hr fun a' w' hr'=>⟨rfl,h,ho,hr'⟩
 ·intro j a w hj ⟨h,ho,hr⟩
  unfold toGo
  rw[hr.ev (x:=.tmp 67) (k:=.i64) (n:=(j:Int)) (by kernel_rfl)]
  rfl
 ·intro a w ⟨h,ho,hr⟩
  rw[List.take_length] at hr
  exact hQ h _ _ a w ho hr
theorem w_K4 (hlen:fs.length < 1000000000000) (hr:RelH 117 Mod F0 w0 h (stC p l out t h.m ss k s fr fs 0) a w)
  (hQ:∀j b a' w',RelH 117 Mod F0 w0 h ((stC p l out t h.m ss k s (putAll fr fs) fs j).put (some 56) (.d .bool b)) a' w'→Q .normal a' w'):dpK4.wp dProg Q a w:=by
 rw[ZQI]
 refine forLoop (fun j a w=>RelH 117 Mod F0 w0 h (stC p l out t h.m ss k s (putAll fr (fs.take j)) fs (j:Int)) a w)
  (fun j a w=>RelH 117 Mod F0 w0 h ((stC p l out t h.m ss k s (putAll fr (fs.take j)) fs (j:Int)).put (some 56) (.d .bool (decide ((j:Int) < Int.ofNat (List.length fs))))) a w)
  (fun j a w=>RelH 117 Mod F0 w0 h (stC p l out t h.m ss k s (putAll fr (fs.take (j+1))) fs (j:Int)) a w)
  fs.length (toGo 55 fs.length) ?_ ?_ ?_ ?_ ?_ hr ?_
 ·intro j a w hj hr
  exact pieceH dcl.1 dcl.2 (fun s=>s) (fun h=>h) (ZRw _ _ _ _ _ _ _ _ _ _ _) hr fun a' w' hr'=>⟨rfl,hr'⟩
 ·intro j a w hj hr
  rw[hr.evb (x:=.tmp 56) (b:=decide ((j:Int) < Int.ofNat (List.length fs))) (by kernel_rfl),ZI4]
 ·intro j a w hj hr
  refine pieceH dcl.1 dcl.2 (norm dProg labC) (fun h=>Z1 h) ((ZRq p l out t h.m ss k s (putAll fr (fs.take j)) fs (j:Int) _).ok (ZDV hj)) hr fun a' w' hr'=>⟨.inl rfl,?_⟩
  have:putAll fr (fs.take (j+1))=(Zp (putAll fr (fs.take j)) (List.getD fs (Int.toNat (j:Int)) (dflt (.int .i64)))).2:=by
   rw[List.take_succ_eq_append_getElem hj]
   unfold putAll
   rw[List.foldl_append]
   simp only[List.foldl_cons,List.foldl_nil]
   rw[Int.toNat_natCast,List.getD_eq_getElem?_getD,List.getElem?_eq_getElem hj]
   rfl
  rw[this]
  exact hr'
 ·intro j a w hj hr
  have e:=ZRm p l out t h.m ss k s (putAll fr (fs.take (j+1))) fs (j:Int)
  rw[Zo (by omega)] at e
  exact pieceH dcl.1 dcl.2 (norm dProg labC) (fun h=>Z1 h) e hr fun a' w' hr'=>⟨rfl,hr'⟩
 ·intro j a w hj hr
  unfold toGo
  rw[hr.ev (x:=.tmp 55) (k:=.i64) (n:=(j:Int)) (by kernel_rfl)]
  rfl
 ·intro a w hr
  rw[List.take_length] at hr
  exact hQ _ _ a w hr
structure DelayOK (p:El Zc) (l:List (El Zb)):Prop where
 len:l.length < 1000000000
 thr:p.2.length < 1000000000
 all:(p.2.length*(l.length*l.length)+1)*24≤limit
 back:∀r:Int,ZhB p r=true∧(ZbI p r).length < 1000000000000
 flow:∀(t:Nat) (i:Int),t < p.2.length→ZiU (insP p (t:Int)) i=true∧(ZbA (insP p (t:Int)) i).length < 1000000000000
theorem ZMy {l:List (El Zb)} {t:Int} {b:Bool} {r:Int} (h:r∈ZT l t b):0≤r∧r < (l.length:Int):=by
 obtain ⟨i,hi,_,rfl⟩:=Zcv.1 h
 omega
theorem w_B3 (hd:DelayOK p l) {t:Nat} (ht:t < p.2.length) {k:Nat} (hk:k < ss.length) (hss:∀s∈ss,0≤s∧s < (l.length:Int)) (hlim:(out.length+l.length+1)*24≤limit) (ho:OkS p l h.cont)
  (hr:RelH 117 Mod F0 w0 h ((stB p l out (t:Int) h.m ss (k:Int)).put (some 32) (.d .bool b)) a w):
  (lpB dpK2).wp dProg (fun e a' w'=>(e=.normal∨e=.exit 3)∧∃(h':HS) (s:Int) (fr:SetD) (ls:List Int) (j:Int) (b:Bool),OkS p l h'.cont∧RelH 117 Mod F0 w0 h' ((stD p l (out++outS p l (t:Int) (List.getD ss k (dflt (.int .i64)))) (t:Int) h'.m ss (k:Int) s fr ls j).put (some 68) (.d .bool b)) a' w') a w:=by
 obtain ⟨g1,g2⟩:=ZED hk
 have hs:=hss _ g2
 obtain ⟨f1,f2⟩:=hd.flow t (insL l (List.getD ss k (dflt (.int .i64)))) ht
 rw[ZQe]
 refine wp_seq (pieceH dcl.1 dcl.2 (norm dProg labB9) (fun h=>Z1 h) ((dp_7 p l out (t:Int) h.m ss (k:Int) b).ok (ZDV hk)) hr fun a w hr=>?_)
 rw[Int.toNat_natCast] at hr
 refine wp_seq (pieceH dcl.1 dcl.2 (norm dProg labB10) (fun h=>Z1 h) ((dp_8 p l out (t:Int) h.m ss (k:Int) _).ok (ZDV ht)) hr fun a w hr=>?_)
 refine wp_seq (wp_seq (pieceH dcl.1 dcl.2 (norm dProg labC) (fun h=>Z1 h) ((dp_9 p l out (t:Int) h.m ss (k:Int) _ _).ok (by rw[ZDV ht,ZGq hs.1 hs.2];exact f1)) hr fun a w hr=>?_))
 refine w_K4 f2 hr fun j b a w hr=>?_
 have hkp:ZdT l (t:Int) false=true:=decide_eq_true hd.len
 refine wp_seq (pieceH dcl.1 dcl.2 (norm dProg labD) (fun h=>Z1 h) ((ZRd p l out (t:Int) h.m ss (k:Int) _ _ _ _ _).ok hkp) hr fun a w hr=>?_)
 have hl2:(ZT l (t:Int) false).length≤l.length:=Zk7
 refine w_K6 hs (fun r hrm=>⟨ZMy hrm,hd.back r⟩) (lim2 hl2 hd.len) (lim3 hl2 hlim) ho hr fun h' j b a w ho hr=>⟨.inl rfl,h',_,_,_,j,b,ho,hr⟩
end
end
end Go.Ev
end

section
open Go Go.Ev
namespace Go.Ev
noncomputable section
theorem limA {o c n N L:Nat} (hc:c < n) (h:(o+n*N+1)*24≤L) {f:Nat} (hf:f≤min c n*N):(o+f+N+1)*24≤L:=by
 refine Nat.le_trans (Nat.mul_le_mul_right _ (Nat.add_le_add_right ?_ _)) h
 rw[Nat.add_assoc]
 refine Nat.add_le_add_left ?_ _
 have h1:(c+1)*N≤n*N:=Nat.mul_le_mul_right _ hc
 have h2:min c n*N≤c*N:=Nat.mul_le_mul_right _ (Nat.min_le_left _ _)
 rw[Nat.succ_mul] at h1
 exact Nat.le_trans (Nat.add_le_add_right (Nat.le_trans hf h2) _) h1
section
variable [Orgs] {Mod F0:Nat→Prop} {w0:World} {h:HS} {a:Act} {w:World} {Q:Exit→Act→World→Prop}
variable {p:El Zc} {l:List (El Zb)} {out:List (El Zd)} {m:Nat} {ss:List Int} {b:Bool}
attribute [local irreducible] stA stA5 stB stB9 stB10 stC stD stD14 stE St.put
theorem w_K2 (hd:DelayOK p l) {t:Nat} (ht:t < p.2.length) (hss:∀s∈ss,0≤s∧s < (l.length:Int)) (hlen:ss.length < 1000000000000) (hlim:(out.length+ss.length*l.length+1)*24≤limit) (ho:OkS p l h.cont)
  (hr:RelH 117 Mod F0 w0 h (stB p l out (t:Int) h.m ss 0) a w)
  (hQ:∀h' k b a' w',RelH 117 Mod F0 w0 h' ((stB p l (out++ss.flatMap (outS p l (t:Int))) (t:Int) h'.m ss k).put (some 32) (.d .bool b)) a' w'→Q .normal a' w'):dpK2.wp dProg Q a w:=by
 rw[ZQk]
 refine forLoop (fun k a w=>∃h:HS,OkS p l h.cont∧RelH 117 Mod F0 w0 h (stB p l (out++(ss.take k).flatMap (outS p l (t:Int))) (t:Int) h.m ss (k:Int)) a w)
  (fun k a w=>∃h:HS,OkS p l h.cont∧RelH 117 Mod F0 w0 h ((stB p l (out++(ss.take k).flatMap (outS p l (t:Int))) (t:Int) h.m ss (k:Int)).put (some 32) (.d .bool (decide ((k:Int) < Int.ofNat (List.length ss))))) a w)
  (fun k a w=>∃(h:HS) (s:Int) (fr:SetD) (ls:List Int) (j:Int) (b:Bool),OkS p l h.cont∧RelH 117 Mod F0 w0 h ((stD p l (out++(ss.take (k+1)).flatMap (outS p l (t:Int))) (t:Int) h.m ss (k:Int) s fr ls j).put (some 68) (.d .bool b)) a w)
  ss.length (toGo 31 ss.length) ?_ ?_ ?_ ?_ ?_ ⟨h,ho,by simpa using hr⟩ ?_
 ·intro k a w hk ⟨h,ho,hr⟩
  exact pieceH dcl.1 dcl.2 (fun s=>s) (fun h=>h) (ZRp _ _ _ _ _ _ _) hr fun a' w' hr'=>⟨rfl,h,ho,hr'⟩
 ·intro k a w hk ⟨h,ho,hr⟩
  rw[hr.evb (x:=.tmp 32) (b:=decide ((k:Int) < Int.ofNat (List.length ss))) (by kernel_rfl),ZI4]
 ·intro k a w hk ⟨h,ho,hr⟩
  obtain ⟨g1,g2⟩:=ZED hk
  rw[ZJl hk g1,←List.append_assoc]
  refine w_B3 hd ht hk hss ?_ ho hr
  have h1:=ZpO (ZMk p l (t:Int)) (ss.take k)
  rw[List.length_append]
  rw[List.length_take] at h1
  exact limA hk hlim h1
 ·intro k a w hk ⟨h,s,fr,ls,j,b,ho,hr⟩
  have e:=ZRt p l (out++(ss.take (k+1)).flatMap (outS p l (t:Int))) (t:Int) h.m ss (k:Int) s fr j ls b
  rw[Zo (Nat.lt_trans (Nat.lt_trans hk hlen) (by decide))] at e
  exact pieceH dcl.1 dcl.2 (norm dProg labB) (fun h=>Z1 h) e hr fun a' w' hr'=>⟨rfl,h,ho,hr'⟩
 ·intro k a w hk ⟨h,ho,hr⟩
  unfold toGo
  rw[hr.ev (x:=.tmp 31) (k:=.i64) (n:=(k:Int)) (by kernel_rfl)]
  rfl
 ·intro a w ⟨h,ho,hr⟩
  rw[List.take_length] at hr
  exact hQ h _ _ a w hr
def outN (p:El Zc) (l:List (El Zb)) (n:Nat):List (El Zd):=(List.range n).flatMap fun t:Nat=>outT p l (t:Int)
theorem ZPQ (p:El Zc) (l:List (El Zb)) (n:Nat):(outN p l n).length≤n*(l.length*l.length):=by
 have:=ZpO (fun t:Nat=>ZPv p l (t:Int)) (List.range n)
 rw[List.length_range] at this
 unfold outN
 exact this
theorem ZOs (p:El Zc) (l:List (El Zb)) (n:Nat):outN p l (n+1)=outN p l n++outT p l (n:Int):=by
 unfold outN
 rw[List.range_succ,List.flatMap_append]
 simp
theorem limC {c n N L:Nat} (hc:c < n) (h:(n*(N*N)+1)*24≤L) {o s:Nat} (ho:o≤c*(N*N)) (hs:s≤N):(o+s*N+1)*24≤L:=by
 refine Nat.le_trans (Nat.mul_le_mul_right _ (Nat.add_le_add_right ?_ _)) h
 have h1:(c+1)*(N*N)≤n*(N*N):=Nat.mul_le_mul_right _ hc
 rw[Nat.succ_mul] at h1
 exact Nat.le_trans (Nat.add_le_add ho (Nat.mul_le_mul_right _ hs)) h1
theorem ZQF (p:El Zc) (l:List (El Zb)) (m:Nat):OkS p l (⟨m,[]⟩:HS).cont:=fun r d hrd=>by cases hrd
theorem w_B1 (hd:DelayOK p l) {t:Nat} (ht:t < p.2.length) (hr:Rel Mod F0 w0 ((stA p l (outN p l t) (t:Int)).put (some 23) (.d .bool b)) a w):
  (lpB dpK0).wp dProg (fun e a' w'=>(e=.normal∨e=.exit 1)∧∃(m:Nat) (ss:List Int) (k:Int) (b:Bool),Rel Mod F0 w0 ((stB p l (outN p l (t+1)) (t:Int) m ss k).put (some 32) (.d .bool b)) a' w') a w:=by
 rw[ZQi]
 refine wp_seq (piece dcl.1 dcl.2 (norm dProg labA5) (fun h=>Z1 h) (dp_4 p l (outN p l t) (t:Int) b) hr fun a w hr=>?_)
 have hkp:ZdT l (t:Int) true=true:=decide_eq_true hd.len
 refine wp_seq (w_5 hkp hr fun m a w hr=>?_)
 refine wp_seq (pieceH dcl.1 dcl.2 (norm dProg labB) (fun h=>Z1 h) dp_6 hr fun a w hr=>?_)
 have hl2:(ZT l (t:Int) true).length≤l.length:=Zk7
 refine w_K2 (h:=⟨m,[]⟩) hd ht (fun s hs=>ZMy hs) (lim2 hl2 hd.len) (limC ht hd.all (ZPQ p l t) hl2) (ZQF p l m) hr fun h' k b a w hr=>⟨.inl rfl,h'.m,ZT l (t:Int) true,k,b,?_⟩
 rw[ZOs]
 exact hr.out
theorem w_K0 (hd:DelayOK p l) (hr:Rel Mod F0 w0 (stA p l [] 0) a w)
  (hQ:∀t b a' w',Rel Mod F0 w0 ((stA p l (outN p l p.2.length) t).put (some 23) (.d .bool b)) a' w'→Q .normal a' w'):dpK0.wp dProg Q a w:=by
 rw[ZQm]
 refine forLoop (fun t a w=>Rel Mod F0 w0 (stA p l (outN p l t) (t:Int)) a w)
  (fun t a w=>Rel Mod F0 w0 ((stA p l (outN p l t) (t:Int)).put (some 23) (.d .bool (decide ((t:Int) < Int.ofNat (List.length p.2))))) a w)
  (fun t a w=>∃(m:Nat) (ss:List Int) (k:Int) (b:Bool),Rel Mod F0 w0 ((stB p l (outN p l (t+1)) (t:Int) m ss k).put (some 32) (.d .bool b)) a w)
  p.2.length (toGo 22 p.2.length) ?_ ?_ ?_ ?_ ?_ hr ?_
 ·intro t a w ht hr
  exact piece dcl.1 dcl.2 (fun s=>s) (fun h=>h) (ZRr _ _ _ _) hr fun a' w' hr'=>⟨rfl,hr'⟩
 ·intro t a w ht hr
  rw[hr.evb (x:=.tmp 23) (b:=decide ((t:Int) < Int.ofNat (List.length p.2))) (by kernel_rfl),ZI4]
 ·intro t a w ht hr
  exact w_B1 hd ht hr
 ·intro t a w ht ⟨m,ss,k,b,hr⟩
  have e:=ZRB p l (outN p l (t+1)) (t:Int) m ss k b
  rw[Zo (Nat.lt_trans (Nat.lt_trans ht hd.thr) (by decide))] at e
  exact piece dcl.1 dcl.2 (norm dProg labA) (fun h=>Z1 h) e hr fun a' w' hr'=>⟨rfl,hr'⟩
 ·intro t a w ht hr
  unfold toGo
  rw[hr.ev (x:=.tmp 22) (k:=.i64) (n:=(t:Int)) (by kernel_rfl)]
  rfl
 ·intro a w hr
  exact hQ _ _ a w hr
end
end
end Go.Ev
end

section
open Go Go.Ev
namespace Go.Ev
def Zoa:Sig:=[(true,Zc)]
noncomputable def Zj (p:El Zc):List (El Zd):=outN p (ofC p) p.2.length
def ZS (p:El Zc):Bool:=smallAll p&&(decide ((ofC p).length < 1000000000)&&(decide (p.2.length < 1000000000)&&decide ((p.2.length*((ofC p).length*(ofC p).length)+1)*24≤limit)))
def ZvO:List (El Zd)→AV:=fun (r:List (El Zd))=>.rw 70 Zd r
theorem ZIY {x:List (El Za)} :∀ {l:List (List (El Za))},x∈l→x.length≤total l
 | y :: l,h=>by
  unfold total at*
  rw[List.map_cons,List.sum_cons]
  rcases List.mem_cons.1 h with rfl | h
  ·exact Nat.le_add_right _ _
  ·exact Nat.le_trans (by have:=ZIY h;unfold total at this;exact this) (Nat.le_add_left _ _)
theorem ZLO (p:El Zc) (a:Int):(ZbI p a).length≤(ofC p).length:=by
 unfold ZbI
 split
 ·exact Zk7
 ·exact Nat.zero_le _
theorem delayOK {p:El Zc} (hk:ZS p=true):smallAll p=true∧DelayOK p (ofC p):=by
 unfold ZS at hk
 simp only[Bool.and_eq_true] at hk
 obtain ⟨h1,h2,h3,h4⟩:=hk
 have h2:=of_decide_eq_true h2
 have hA:=smallA h1
 refine ⟨h1,h2,of_decide_eq_true h3,of_decide_eq_true h4,fun r=>⟨h1,Nat.lt_of_le_of_lt (ZLO p r) (Nat.lt_trans h2 (by decide))⟩,fun t i ht=>?_⟩
 have hm:insP p (t:Int)∈p.2:=by
  unfold insP
  rw[Int.toNat_natCast,List.getD_eq_getElem?_getD,List.getElem?_eq_getElem ht]
  exact List.getElem_mem ht
 have hf:=Ztw (hA.thr _ hm)
 have h1:(ZbA (insP p (t:Int)) i).length≤(insP p (t:Int)).length:=Zk7
 have h2:(insP p (t:Int)).length < 1073741824:=by
  exact Nat.lt_of_le_of_lt (ZIY hm) hA.tot
 exact ⟨hf,Nat.lt_of_le_of_lt h1 (Nat.lt_trans h2 (by decide))⟩
noncomputable section
theorem dp_E (p:El Zc) (l:List (El Zb)) (out:List (El Zd)) (t:Int) (b:Bool):dEvI dpE ((stA p l out t).put (some 23) (.d .bool b)) ((((stA p l out t).put (some 23) (.d .bool b)).put (some 125) (.own 5 0 none)).put (some 2) (.own 5 0 none)):=fun L k x r=>by kernel_rfl
theorem ZwU (p:El Zc) (hk:ZS p=true):CallOK dProg 26 (toForms Zoa (p,())) (ZvO (Zj p),tps (toForms Zoa (p,()))):=by
 obtain ⟨hs,hd⟩:=delayOK hk
 refine Znj (tb:=[]) (fn:=Go.Proofs.Tryz.f26) (c:=dpB) (vs:=[.ag [.d (.sl Zx) p.1,.d (.sl (.sl Za)) p.2]]) (st:=⟨[],[]⟩) (by kernel_rfl) (by kernel_rfl) (by kernel_rfl) ?_
 intro _ Mod F0 w0 a w hr
 have hr:Rel Mod F0 w0 (dS0 p) a w:=hr
 rw[ZQ0]
 refine wp_seq (piece dcl.1 dcl.2 (norm dProg ⟨[1],[]⟩) (fun h=>Z1 h) (dp_0 p) hr fun a w hr=>?_)
 refine wp_seq (piece dcl.1 dcl.2 (norm dProg ⟨[1,3],[]⟩) (fun h=>Z1 h) ((dp_1 p).ok hs) hr fun a w hr=>?_)
 refine wp_seq (piece dcl.1 dcl.2 (norm dProg ⟨[1,3,4],[(5,118)]⟩) (fun h=>Z1 h) (dp_2 p (ZD p)) hr fun a w hr=>?_)
 refine wp_seq (wp_seq (piece dcl.1 dcl.2 (norm dProg labA) (fun h=>Z1 h) (dp_3 p (ZD p)) hr fun a w hr=>?_))
 refine w_K0 (l:=ofC p) hd hr fun t b a w hr=>?_
 refine wp_seq (piece dcl.1 dcl.2 (fun s=>s) (fun h=>h) (dp_E p (ofC p) (outN p (ofC p) p.2.length) t b) hr fun a w hr=>?_)
 exact wp_ret ⟨.inr rfl,_,hr,by kernel_rfl⟩
noncomputable def ZfW:Run:=entG Zoa ZvO (fun a=>ZS a.1) (fun a=>Zj a.1)
theorem Zgo:EntOK dProg 26 ZfW:=ZB6 (Zi7 (fn:=Go.Proofs.Tryz.f26) (c:=dpB) (by kernel_rfl) (by kernel_rfl) (by kernel_rfl)) fun a h=>ZwU a.1 h
end
end Go.Ev
end

section
open Go Go.Ev
namespace Go.Ev
noncomputable section
def ZoO:Sig:=[(false,(.sl Zd)),(false,(.int .i64))]
noncomputable def ZFa:Tbl:=[]
theorem ZOE:∀p∈ZFa,EntOK Go.Proofs.Tryz.prog p.1 p.2:=Zt
noncomputable def ZzQ:Code:=Go.Proofs.Tryz.f25.body.getD .skip
def ZAz:Tb:=[(4,⟨[1,5,8,9,10],[(6,118)]⟩)]
inductive ZwK where | l4 (h:Int) (out:List (El Zd))
def Zwu (l:List (El Zd)) (t:Int):ZwK→JT ZwK (List (El Zd)) |.l4 h out=>.br (decide (h < (Int.ofNat (List.length l)))) (.br ((decide ((0:Int)≤h))&&(decide (h < (Int.ofNat (List.length l))))) (.br ((List.getD l (Int.toNat h) (dflt Zd)).1==t) (.br (Nat.ble (((List.length out)+1)*24) limit) (.jmp (.l4 (IntKind.i64.wrap (h+(1:Int))) (out++[(List.getD l (Int.toNat h) (dflt Zd))]))) (.no)) (.jmp (.l4 (IntKind.i64.wrap (h+(1:Int))) out))) (.no)) (.leaf out)
def ZIz (l:List (El Zd)) (t:Int):JT ZwK (List (El Zd)):=.jmp (.l4 (0:Int) [])
def ZzP:List (El Zd)→AV:=fun (r:List (El Zd))=>.rw 70 Zd r
def Zpo (l:List (El Zd)) (t:Int):ZwK→Nat×St |.l4 h out=>(4,⟨mkTm 24 [(1,.d (.int .i64) t),(5,.own 6 0 none),(8,.d (.sl Zd) l),(9,.d (.int .i64) (Int.ofNat (List.length l))),(10,.d (.int .i64) h)],[(6,0,.row 70 Zd out false)]⟩)
theorem ZOf (l:List (El Zd)) (t:Int) (L:Lt):entryA Go.Proofs.Tryz.prog (clOf ZFa) ZAz Go.Proofs.Tryz.f25 ZzQ L (toForms ZoO (l,t,()))=(ZIz l t).run (fun v=>some (ZzP v,tps (toForms ZoO (l,t,())))) fun j=>L (Zpo l t j).1 (Zpo l t j).2:=by kernel_rfl
theorem ZNI (l:List (El Zd)) (t:Int):∀(L:Lt) (j:ZwK),procOf (procsF Go.Proofs.Tryz.prog (clOf ZFa) ZAz Go.Proofs.Tryz.f25 ZzQ (toForms ZoO (l,t,()))) (Zpo l t j).1 L (Zpo l t j).2=(Zwu l t j).run (fun v=>some (ZzP v,tps (toForms ZoO (l,t,())))) fun j=>L (Zpo l t j).1 (Zpo l t j).2 | L,.l4 h out=>by kernel_rfl
end
end Go.Ev
end

section
open Go Go.Ev
namespace Go.Ev
noncomputable section
def ZfK:Sig:=[(false,.str)]
noncomputable def Zsb:Tbl:=[]
theorem ZEE:∀p∈Zsb,EntOK Go.Proofs.Tryz.prog p.1 p.2:=Zt
noncomputable def Zny:Code:=Go.Proofs.Tryz.f63.body.getD .skip
def Zpc:Tb:=[(5,⟨[0,3,4,5,10],[(4,196)]⟩),(18,⟨[3,8],[]⟩)]
inductive ZjS where | l5 (line:Int) (out:List (El Zu)) (pos:Nat) (col:Int) | l18 (out:List (El Zu)) (i:Int)
def ZbR (s:ByteArray):ZjS→JT ZjS (List (El Zu)) |.l5 line out pos col=>.br (decide (pos < (ByteArray.size s))) (.br (decide ((Int.ofNat (List.length out)) > (0:Int))) (.br ((decide ((0:Int)≤(IntKind.i64.wrap ((Int.ofNat (List.length out)) - (1:Int)))))&&(decide ((IntKind.i64.wrap ((Int.ofNat (List.length out)) - (1:Int))) < (Int.ofNat (List.length out))))) (.br ((decide ((0:Int)≤(IntKind.i64.wrap ((Int.ofNat (List.length out)) - (1:Int)))))&&(decide ((IntKind.i64.wrap ((Int.ofNat (List.length out)) - (1:Int))) < (Int.ofNat (List.length out))))) (.br (Nat.ble (((List.length (List.set out (Int.toNat (IntKind.i64.wrap ((Int.ofNat (List.length out)) - (1:Int)))) ((List.getD out (Int.toNat (IntKind.i64.wrap ((Int.ofNat (List.length out)) - (1:Int)))) (dflt Zu)).1,((List.getD out (Int.toNat (IntKind.i64.wrap ((Int.ofNat (List.length out)) - (1:Int)))) (dflt Zu)).2.1,((IntKind.i64.wrap ((Int.ofNat pos) - (List.getD out (Int.toNat (IntKind.i64.wrap ((Int.ofNat (List.length out)) - (1:Int)))) (dflt Zu)).2.1)),(List.getD out (Int.toNat (IntKind.i64.wrap ((Int.ofNat (List.length out)) - (1:Int)))) (dflt Zu)).2.2.2)))))+1)*48) limit) (.br ((Int.ofNat (Utf8.decode s pos).1)==(10:Int)) (.jmp (.l5 (IntKind.i64.wrap (line+(1:Int))) ((List.set out (Int.toNat (IntKind.i64.wrap ((Int.ofNat (List.length out)) - (1:Int)))) ((List.getD out (Int.toNat (IntKind.i64.wrap ((Int.ofNat (List.length out)) - (1:Int)))) (dflt Zu)).1,((List.getD out (Int.toNat (IntKind.i64.wrap ((Int.ofNat (List.length out)) - (1:Int)))) (dflt Zu)).2.1,((IntKind.i64.wrap ((Int.ofNat pos) - (List.getD out (Int.toNat (IntKind.i64.wrap ((Int.ofNat (List.length out)) - (1:Int)))) (dflt Zu)).2.1)),(List.getD out (Int.toNat (IntKind.i64.wrap ((Int.ofNat (List.length out)) - (1:Int)))) (dflt Zu)).2.2.2))))++[((Int.ofNat (Utf8.decode s pos).1),((Int.ofNat pos),((0:Int),(line,(col,false)))))]) (pos+(Utf8.decode s pos).2) (1:Int))) (.jmp (.l5 line ((List.set out (Int.toNat (IntKind.i64.wrap ((Int.ofNat (List.length out)) - (1:Int)))) ((List.getD out (Int.toNat (IntKind.i64.wrap ((Int.ofNat (List.length out)) - (1:Int)))) (dflt Zu)).1,((List.getD out (Int.toNat (IntKind.i64.wrap ((Int.ofNat (List.length out)) - (1:Int)))) (dflt Zu)).2.1,((IntKind.i64.wrap ((Int.ofNat pos) - (List.getD out (Int.toNat (IntKind.i64.wrap ((Int.ofNat (List.length out)) - (1:Int)))) (dflt Zu)).2.1)),(List.getD out (Int.toNat (IntKind.i64.wrap ((Int.ofNat (List.length out)) - (1:Int)))) (dflt Zu)).2.2.2))))++[((Int.ofNat (Utf8.decode s pos).1),((Int.ofNat pos),((0:Int),(line,(col,false)))))]) (pos+(Utf8.decode s pos).2) (IntKind.i64.wrap (col+(1:Int)))))) (.no)) (.no)) (.no)) (.br (Nat.ble (((List.length out)+1)*48) limit) (.br ((Int.ofNat (Utf8.decode s pos).1)==(10:Int)) (.jmp (.l5 (IntKind.i64.wrap (line+(1:Int))) (out++[((Int.ofNat (Utf8.decode s pos).1),((Int.ofNat pos),((0:Int),(line,(col,false)))))]) (pos+(Utf8.decode s pos).2) (1:Int))) (.jmp (.l5 line (out++[((Int.ofNat (Utf8.decode s pos).1),((Int.ofNat pos),((0:Int),(line,(col,false)))))]) (pos+(Utf8.decode s pos).2) (IntKind.i64.wrap (col+(1:Int)))))) (.no))) (.br (decide ((Int.ofNat (List.length out)) > (0:Int))) (.br ((decide ((0:Int)≤(IntKind.i64.wrap ((Int.ofNat (List.length out)) - (1:Int)))))&&(decide ((IntKind.i64.wrap ((Int.ofNat (List.length out)) - (1:Int))) < (Int.ofNat (List.length out))))) (.br ((decide ((0:Int)≤(IntKind.i64.wrap ((Int.ofNat (List.length out)) - (1:Int)))))&&(decide ((IntKind.i64.wrap ((Int.ofNat (List.length out)) - (1:Int))) < (Int.ofNat (List.length out))))) (.jmp (.l18 (List.set out (Int.toNat (IntKind.i64.wrap ((Int.ofNat (List.length out)) - (1:Int)))) ((List.getD out (Int.toNat (IntKind.i64.wrap ((Int.ofNat (List.length out)) - (1:Int)))) (dflt Zu)).1,((List.getD out (Int.toNat (IntKind.i64.wrap ((Int.ofNat (List.length out)) - (1:Int)))) (dflt Zu)).2.1,((IntKind.i64.wrap ((Int.ofNat (ByteArray.size s)) - (List.getD out (Int.toNat (IntKind.i64.wrap ((Int.ofNat (List.length out)) - (1:Int)))) (dflt Zu)).2.1)),(List.getD out (Int.toNat (IntKind.i64.wrap ((Int.ofNat (List.length out)) - (1:Int)))) (dflt Zu)).2.2.2)))) (0:Int))) (.no)) (.no)) (.jmp (.l18 out (0:Int)))) |.l18 out i=>.br (decide (i < (Int.ofNat (List.length out)))) (.br ((decide ((0:Int)≤i))&&(decide (i < (Int.ofNat (List.length out))))) (.br ((List.getD out (Int.toNat i) (dflt Zu)).1==(65533:Int)) (.br ((decide ((0:Int)≤i))&&(decide (i < (Int.ofNat (List.length out))))) (.br ((decide ((0:Int)≤i))&&(decide (i < (Int.ofNat (List.length out))))) (.jmp (.l18 (List.set out (Int.toNat i) ((List.getD out (Int.toNat i) (dflt Zu)).1,((List.getD out (Int.toNat i) (dflt Zu)).2.1,((List.getD out (Int.toNat i) (dflt Zu)).2.2.1,((List.getD out (Int.toNat i) (dflt Zu)).2.2.2.1,((List.getD out (Int.toNat i) (dflt Zu)).2.2.2.2.1,((List.getD out (Int.toNat i) (dflt Zu)).2.2.1==(1:Int)))))))) (IntKind.i64.wrap (i+(1:Int))))) (.no)) (.no)) (.br ((decide ((0:Int)≤i))&&(decide (i < (Int.ofNat (List.length out))))) (.jmp (.l18 (List.set out (Int.toNat i) ((List.getD out (Int.toNat i) (dflt Zu)).1,((List.getD out (Int.toNat i) (dflt Zu)).2.1,((List.getD out (Int.toNat i) (dflt Zu)).2.2.1,((List.getD out (Int.toNat i) (dflt Zu)).2.2.2.1,((List.getD out (Int.toNat i) (dflt Zu)).2.2.2.2.1,false)))))) (IntKind.i64.wrap (i+(1:Int))))) (.no))) (.no)) (.leaf out)
def Zqn (s:ByteArray):JT ZjS (List (El Zu)):=.jmp (.l5 (1:Int) [] 0 (1:Int))
def Znh:List (El Zu)→AV:=fun (r:List (El Zu))=>.rw 101 Zu r
def Zfh (s:ByteArray):ZjS→Nat×St |.l5 line out pos col=>(5,⟨mkTm 91 [(0,.d .str s),(3,.own 4 0 none),(4,.d (.int .i64) line),(5,.d (.int .i64) col),(10,.it 11 0)],[(4,0,.row 101 Zu out false),(11,0,.sit s pos)]⟩) |.l18 out i=>(18,⟨mkTm 91 [(3,.own 4 0 none),(8,.d (.int .i64) i)],[(4,0,.row 101 Zu out false)]⟩)
theorem ZFe (s:ByteArray) (L:Lt):entryA Go.Proofs.Tryz.prog (clOf Zsb) Zpc Go.Proofs.Tryz.f63 Zny L (toForms ZfK (s,()))=(Zqn s).run (fun v=>some (Znh v,tps (toForms ZfK (s,())))) fun j=>L (Zfh s j).1 (Zfh s j).2:=by kernel_rfl
theorem ZE1 (s:ByteArray):∀(L:Lt) (j:ZjS),procOf (procsF Go.Proofs.Tryz.prog (clOf Zsb) Zpc Go.Proofs.Tryz.f63 Zny (toForms ZfK (s,()))) (Zfh s j).1 L (Zfh s j).2=(ZbR s j).run (fun v=>some (Znh v,tps (toForms ZfK (s,())))) fun j=>L (Zfh s j).1 (Zfh s j).2 | L,.l5 line out pos col=>by kernel_rfl | L,.l18 out i=>by kernel_rfl
end
end Go.Ev
end

section
open Go
namespace Go.Ev
def rawFrom (s:ByteArray):Nat→Nat→Int→Int→List (El Z5)
 | 0,_,_,_=>[]
 | n+1,pos,line,col=>
  if pos < s.size then
   spotAt s pos line col false :: rawFrom s n (pos+(Utf8.decode s pos).2) (Zaf line col (Int.ofNat (Utf8.decode s pos).1)).1 (Zaf line col (Int.ofNat (Utf8.decode s pos).1)).2
  else []
def tellBad (x:El Z5):El Z5:=(x.1,x.2.1,x.2.2.1,x.2.2.2.1,x.2.2.2.2.1,x.1==(65533:Int)&&x.2.2.1==(1:Int))
def noSize (x:El Z5):El Z5:=(x.1,x.2.1,0,x.2.2.2.1,x.2.2.2.2.1,x.2.2.2.2.2)
theorem ZIo (s:ByteArray):∀(n pos:Nat) (line col:Int),(rawFrom s n pos line col).map tellBad=spotsFrom s n pos line col
 | 0,_,_,_=>rfl
 | n+1,pos,line,col=>by
  unfold rawFrom spotsFrom
  split
  ·rw[List.map_cons,ZIo s n]
   congr 1
   unfold tellBad spotAt badAt
   have e1:(Int.ofNat (Utf8.decode s pos).1==(65533:Int))=decide ((Utf8.decode s pos).1=65533):=by rw[Bool.eq_iff_iff];simp <;> omega
   have e2:(Int.ofNat (Utf8.decode s pos).2==(1:Int))=decide ((Utf8.decode s pos).2=1):=by rw[Bool.eq_iff_iff];simp <;> omega
   simp only[e1,e2]
  ·rfl
def Z4 (s:ByteArray):List (El Z5):=spots s
def Zm1 (s:ByteArray):Bool:=smallText s
theorem ZJB (s:ByteArray) (hk:Zm1 s=true):Goes (ZbR s) (Zqn s) (Z4 s):=by
 have hs:s.size < 549755813888:=of_decide_eq_true hk
 have loop2:∀(rest pre:List (El Z5)),pre.length+rest.length≤s.size→(∀x∈rest,x.2.2.2.2.2=false)→Goes (ZbR s) (.jmp (.l18 (pre++rest) (pre.length:Int))) (pre++rest.map tellBad):=by
  intro rest
  induction rest with
  | nil=>
   intro pre _ _
   rw[Zi]
   simp[ZbR,Ze,ZR]
  | cons x rest ih=>
   intro pre hl hx
   rw[Zi]
   have hk:pre.length < (pre++x :: rest).length:=by simp
   have hg:(pre++x :: rest).getD pre.length (dflt Z5)=x:=by simp[List.getD]
   have hset:∀y,(pre++x :: rest).set pre.length y=pre++y :: rest:=fun y=>by simp
   have hl':(pre++x :: rest).length≤s.size:=by simpa using hl
   simp only[ZbR,Ze,ZO hk,nng,Bool.and_self,if_true,Int.toNat_natCast,hg,hset,Zo (k:=pre.length) (by omega)]
   have hb:x.2.2.2.2.2=false:=hx x (by simp)
   have key:∀b,b=(x.1==(65533:Int)&&x.2.2.1==(1:Int))→Goes (ZbR s) (.jmp (.l18 (pre++(x.1,x.2.1,x.2.2.1,x.2.2.2.1,x.2.2.2.2.1,b) :: rest) ((pre.length+1:Nat):Int))) (pre++(x :: rest).map tellBad):=by
    intro b e
    subst e
    have:=ih (pre++[tellBad x]) (by simp at hl ⊢;omega) (fun y hy=>hx y (by simp[hy]))
    simpa[tellBad] using this
   by_cases h:x.1=65533
   ·rw[if_pos (by simp[h])]
    exact key _ (by simp[h])
   ·rw[if_neg (by simp[h])]
    exact key _ (by simp[h])
 have raw_false:∀(n pos:Nat) (line col:Int),∀x∈rawFrom s n pos line col,x.2.2.2.2.2=false:=by
  intro n
  induction n with
  | zero=>intro pos line col x hx;simp[rawFrom] at hx
  | succ n ih=>
   intro pos line col x hx
   unfold rawFrom at hx
   split at hx
   ·rcases List.mem_cons.1 hx with rfl | hx
    ·rfl
    ·exact ih _ _ _ x hx
   ·simp at hx
 have loop1:∀(n pos:Nat) (line col:Int) (done:List (El Z5)) (out:List (El Z5)),s.size - pos < n→pos≤s.size→done.length≤pos→(∀x∈done,x.2.2.2.2.2=false)→
   ((done=[]∧out=[])∨∃ini x,done=ini++[x]∧out=ini++[noSize x]∧∃a m:Nat,x.2.1=(a:Int)∧x.2.2.1=(m:Int)∧a+m=pos)→
   Goes (ZbR s) (.jmp (.l5 line out pos col)) ((done++rawFrom s n pos line col).map tellBad):=by
  intro n
  induction n with
  | zero=>intro pos line col done out h;omega
  | succ n ih=>
   intro pos line col done out hn hp hd hfalse hinv
   rw[Zi]
   simp only[ZbR,Ze]
   by_cases h:pos < s.size
   ·have hle:=ZP9 h
    have h1:=ZOl (s:=s) (pos:=pos)
    have hraw:rawFrom s (n+1) pos line col=spotAt s pos line col false :: rawFrom s n (pos+(Utf8.decode s pos).2) (Zaf line col (Int.ofNat (Utf8.decode s pos).1)).1 (Zaf line col (Int.ofNat (Utf8.decode s pos).1)).2:=by
     rw[rawFrom,if_pos h]
    have hnext:∀(l c:Int),l=(Zaf line col (Int.ofNat (Utf8.decode s pos).1)).1→c=(Zaf line col (Int.ofNat (Utf8.decode s pos).1)).2→
      Goes (ZbR s) (.jmp (.l5 l (done++[(Int.ofNat (Utf8.decode s pos).1,Int.ofNat pos,0,line,col,false)]) (pos+(Utf8.decode s pos).2) c)) ((done++rawFrom s (n+1) pos line col).map tellBad):=by
     intro l c el ec
     subst el;subst ec
     have e:∀(r:List (El Z5)),done++spotAt s pos line col false :: r=(done++[spotAt s pos line col false])++r:=fun r=>List.append_cons ..
     rw[hraw,e]
     refine ih (pos+(Utf8.decode s pos).2) _ _ (done++[spotAt s pos line col false]) _ (by omega) (by omega) (by simp <;> omega) ?_ (.inr ⟨done,spotAt s pos line col false,rfl,rfl,pos,(Utf8.decode s pos).2,rfl,rfl,rfl⟩)
     intro x hx
     rcases List.mem_append.1 hx with hx | hx
     ·exact hfalse x hx
     ·simp at hx;subst hx;rfl
    have hfin:if (Int.ofNat (Utf8.decode s pos).1==(10:Int))=true then
       Goes (ZbR s) (.jmp (.l5 (IntKind.i64.wrap (line+1)) (done++[(Int.ofNat (Utf8.decode s pos).1,Int.ofNat pos,0,line,col,false)]) (pos+(Utf8.decode s pos).2) 1)) ((done++rawFrom s (n+1) pos line col).map tellBad)
      else Goes (ZbR s) (.jmp (.l5 line (done++[(Int.ofNat (Utf8.decode s pos).1,Int.ofNat pos,0,line,col,false)]) (pos+(Utf8.decode s pos).2) (IntKind.i64.wrap (col+1)))) ((done++rawFrom s (n+1) pos line col).map tellBad):=by
     split
     ·rename_i hr
      exact hnext _ _ (by simp only[Zaf,hr,cond_true]) (by simp only[Zaf,hr,cond_true])
     ·rename_i hr
      rw[Bool.not_eq_true] at hr
      exact hnext _ _ (by simp only[Zaf,hr,cond_false]) (by simp only[Zaf,hr,cond_false])
    rcases hinv with ⟨rfl,rfl⟩ | ⟨ini,x,rfl,rfl,a,m,ha,hm,ham⟩
    ·have hb:Nat.ble ((([]:List (El Z5)).length+1)*48) limit=true:=by decide
     simp only[h,decide_true,if_true,hb]
     rw[if_neg (by simp)]
     exact hfin
    ·have hlen:(ini++[noSize x]).length=ini.length+1:=by simp
     have hd2:ini.length+1≤pos:=by simpa using hd
     have hw:IntKind.i64.wrap (Int.ofNat (ini++[noSize x]).length - 1)=(ini.length:Int):=by rw[hlen,wrap_i64 (by simp <;> omega) (by simp <;> omega)];simp
     have hg:(ini++[noSize x]).getD ini.length (dflt Z5)=noSize x:=by simp[List.getD]
     have hset:∀y,(ini++[noSize x]).set ini.length y=ini++[y]:=fun y=>by simp
     have hat:IntKind.i64.wrap (Int.ofNat pos - (noSize x).2.1)=x.2.2.1:=by
      show IntKind.i64.wrap (Int.ofNat pos - x.2.1)=_
      rw[ha,hm,wrap_i64 (by simp <;> omega) (by simp <;> omega)]
      simp;omega
     have hy:((noSize x).1,(noSize x).2.1,x.2.2.1,(noSize x).2.2.2)=x:=rfl
     have hgt:decide (Int.ofNat (ini++[noSize x]).length > 0)=true:=by rw[hlen];simp <;> omega
     have hb:Nat.ble (((ini++[x]).length+1)*48) limit=true:=by
      apply Nat.ble_eq_true_of_le;unfold limit;simp <;> omega
     have hlt:ini.length < (ini++[noSize x]).length:=by simp
     simp only[h,decide_true,if_true,hgt,hw,ZO hlt,nng,Bool.and_self,Int.toNat_natCast,hg,hset,hat,hy,hb]
     exact hfin
   ·have hend:rawFrom s (n+1) pos line col=[]:=by rw[rawFrom,if_neg h]
    have hpos:pos=s.size:=by omega
    rw[hend,List.append_nil]
    simp only[h,decide_false]
    rw[if_neg (by simp)]
    rcases hinv with ⟨rfl,rfl⟩ | ⟨ini,x,rfl,rfl,a,m,ha,hm,ham⟩
    ·rw[if_neg (by simp)]
     exact loop2 [] [] (by simp) (by simp)
    ·have hlen:(ini++[noSize x]).length=ini.length+1:=by simp
     have hd2:ini.length+1≤pos:=by simpa using hd
     have hw:IntKind.i64.wrap (Int.ofNat (ini++[noSize x]).length - 1)=(ini.length:Int):=by rw[hlen,wrap_i64 (by simp <;> omega) (by simp <;> omega)];simp
     have hg:(ini++[noSize x]).getD ini.length (dflt Z5)=noSize x:=by simp[List.getD]
     have hset:∀y,(ini++[noSize x]).set ini.length y=ini++[y]:=fun y=>by simp
     have hat:IntKind.i64.wrap (Int.ofNat s.size - (noSize x).2.1)=x.2.2.1:=by
      show IntKind.i64.wrap (Int.ofNat s.size - x.2.1)=_
      rw[ha,hm,wrap_i64 (by simp <;> omega) (by simp <;> omega)]
      simp;omega
     have hy:((noSize x).1,(noSize x).2.1,x.2.2.1,(noSize x).2.2.2)=x:=rfl
     have hgt:decide (Int.ofNat (ini++[noSize x]).length > 0)=true:=by rw[hlen];simp <;> omega
     have hlt:ini.length < (ini++[noSize x]).length:=by simp
     simp only[if_true,hgt,hw,ZO hlt,nng,Bool.and_self,Int.toNat_natCast,hg,hset,hat,hy]
     exact loop2 (ini++[x]) [] (by simp <;> omega) hfalse
 unfold Zqn Z4 spots
 have:=loop1 (s.size+1) 0 1 1 [] [] (by omega) (by omega) (by simp) (by simp) (.inl ⟨rfl,rfl⟩)
 rw[List.nil_append,ZIo] at this
 exact this
end Go.Ev
end

section
open Go Go.Ev
namespace Go.Ev
noncomputable section
noncomputable def ZyW:Run:=entG ZfK Znh (fun a=>Zm1 a.1) (fun a=>Z4 a.1)
theorem ZF7:EntOK Go.Proofs.Tryz.prog 63 ZyW:=ZI (tb:=Zpc) (c:=Zny) ZEE (by kernel_rfl) (by kernel_rfl) (by kernel_rfl) (fun a=>by kernel_rfl) fun ⟨s,_⟩ hk=>Zl (c:=Zny) (K:=fun v=>(Znh v,tps (toForms ZfK (s,())))) (S:=Zfh s) (by kernel_rfl) (ZFe s) (ZE1 s) (ZJB s hk)
end
end Go.Ev
end

section
open Go Go.Ev
namespace Go.Ev
noncomputable section
def Zhj:Sig:=[]
noncomputable def Zvh:Tbl:=[]
theorem ZHy:∀p∈Zvh,EntOK Go.Proofs.Tryz.prog p.1 p.2:=Zt
noncomputable def Zqj:Code:=Go.Proofs.Tryz.f97.body.getD .skip
def Zr7:Tb:=[]
def ZBp:Empty→JT Empty (List ByteArray):=fun j=>nomatch j
def Zzd:JT Empty (List ByteArray):=.leaf ([(bs [114,97,120]),(bs [114,98,120]),(bs [114,99,120]),(bs [114,100,120]),(bs [114,115,105]),(bs [114,100,105]),(bs [114,56]),(bs [114,57])])
def ZbV:List ByteArray:=([(bs [114,97,120]),(bs [114,98,120]),(bs [114,99,120]),(bs [114,100,120]),(bs [114,115,105]),(bs [114,100,105]),(bs [114,56]),(bs [114,57])])
theorem ZLz:Goes (ZBp) (Zzd) (ZbV):=Goes.leaf
def ZqJ:List ByteArray→AV:=fun (r:List ByteArray)=>.rw 9 .str r
def ZgE:Empty→Nat×St:=fun j=>nomatch j
theorem ZH3 (L:Lt):entryA Go.Proofs.Tryz.prog (clOf Zvh) Zr7 Go.Proofs.Tryz.f97 Zqj L (toForms Zhj (()))=(Zzd).run (fun v=>some (ZqJ v,tps (toForms Zhj (())))) fun j=>L (ZgE j).1 (ZgE j).2:=by kernel_rfl
theorem ZKq:∀(L:Lt) (j:Empty),procOf (procsF Go.Proofs.Tryz.prog (clOf Zvh) Zr7 Go.Proofs.Tryz.f97 Zqj (toForms Zhj (()))) (ZgE j).1 L (ZgE j).2=(ZBp j).run (fun v=>some (ZqJ v,tps (toForms Zhj (())))) fun j=>L (ZgE j).1 (ZgE j).2:=fun L j=>nomatch j
noncomputable def ZBh:Run:=entT Zhj ZqJ (fun a=>ZbV)
theorem ZHA:EntOK Go.Proofs.Tryz.prog 97 ZBh:=Zaw (tb:=Zr7) (c:=Zqj) ZHy (by kernel_rfl) (by kernel_rfl) (by kernel_rfl) (fun a=>by kernel_rfl) fun _=>Zl (c:=Zqj) (K:=fun v=>(ZqJ v,tps (toForms Zhj (())))) (S:=ZgE) (by kernel_rfl) (ZH3) (ZKq) (ZLz)
end
end Go.Ev
end

section
open Go Go.Ev
namespace Go.Ev
noncomputable section
def ZiF:Sig:=[]
noncomputable def Zxv:Tbl:=[]
theorem ZKW:∀p∈Zxv,EntOK Go.Proofs.Tryz.prog p.1 p.2:=Zt
noncomputable def ZtQ:Code:=Go.Proofs.Tryz.f98.body.getD .skip
def ZvE:Tb:=[]
def ZDM:Empty→JT Empty (List ByteArray):=fun j=>nomatch j
def ZAT:JT Empty (List ByteArray):=.leaf ([(bs []),(bs [109,111,118]),(bs [97,100,100]),(bs [115,117,98]),(bs [97,110,100]),(bs [111,114]),(bs [120,111,114]),(bs [99,109,112]),(bs [120,99,104,103]),(bs [99,109,112,120,99,104,103]),(bs [106,109,112]),(bs []),(bs [109,102,101,110,99,101]),(bs [110,111,112]),(bs [104,108,116])])
def Zdg:List ByteArray:=([(bs []),(bs [109,111,118]),(bs [97,100,100]),(bs [115,117,98]),(bs [97,110,100]),(bs [111,114]),(bs [120,111,114]),(bs [99,109,112]),(bs [120,99,104,103]),(bs [99,109,112,120,99,104,103]),(bs [106,109,112]),(bs []),(bs [109,102,101,110,99,101]),(bs [110,111,112]),(bs [104,108,116])])
theorem ZM6:Goes (ZDM) (ZAT) (Zdg):=Goes.leaf
def ZtJ:List ByteArray→AV:=fun (r:List ByteArray)=>.rw 9 .str r
def Zi0:Empty→Nat×St:=fun j=>nomatch j
theorem ZLJ (L:Lt):entryA Go.Proofs.Tryz.prog (clOf Zxv) ZvE Go.Proofs.Tryz.f98 ZtQ L (toForms ZiF (()))=(ZAT).run (fun v=>some (ZtJ v,tps (toForms ZiF (())))) fun j=>L (Zi0 j).1 (Zi0 j).2:=by kernel_rfl
theorem ZLq:∀(L:Lt) (j:Empty),procOf (procsF Go.Proofs.Tryz.prog (clOf Zxv) ZvE Go.Proofs.Tryz.f98 ZtQ (toForms ZiF (()))) (Zi0 j).1 L (Zi0 j).2=(ZDM j).run (fun v=>some (ZtJ v,tps (toForms ZiF (())))) fun j=>L (Zi0 j).1 (Zi0 j).2:=fun L j=>nomatch j
noncomputable def ZD1:Run:=entT ZiF ZtJ (fun a=>Zdg)
theorem ZKR:EntOK Go.Proofs.Tryz.prog 98 ZD1:=Zaw (tb:=ZvE) (c:=ZtQ) ZKW (by kernel_rfl) (by kernel_rfl) (by kernel_rfl) (fun a=>by kernel_rfl) fun _=>Zl (c:=ZtQ) (K:=fun v=>(ZtJ v,tps (toForms ZiF (())))) (S:=Zi0) (by kernel_rfl) (ZLJ) (ZLq) (ZM6)
end
end Go.Ev
end

section
open Go Go.Ev
namespace Go.Ev
noncomputable section
def ZfO:Sig:=[]
noncomputable def ZsV:Tbl:=[]
theorem ZGe:∀p∈ZsV,EntOK Go.Proofs.Tryz.prog p.1 p.2:=Zt
noncomputable def ZmX:Code:=Go.Proofs.Tryz.f99.body.getD .skip
def ZqN:Tb:=[]
def ZyD:Empty→JT Empty (List ByteArray):=fun j=>nomatch j
def ZvH:JT Empty (List ByteArray):=.leaf ([(bs []),(bs [106,101]),(bs [106,110,101]),(bs [106,108]),(bs [106,108,101]),(bs [106,103]),(bs [106,103,101]),(bs [106,98]),(bs [106,98,101]),(bs [106,97]),(bs [106,97,101])])
def ZcJ:List ByteArray:=([(bs []),(bs [106,101]),(bs [106,110,101]),(bs [106,108]),(bs [106,108,101]),(bs [106,103]),(bs [106,103,101]),(bs [106,98]),(bs [106,98,101]),(bs [106,97]),(bs [106,97,101])])
theorem ZHW:Goes (ZyD) (ZvH) (ZcJ):=Goes.leaf
def ZmF:List ByteArray→AV:=fun (r:List ByteArray)=>.rw 9 .str r
def ZeC:Empty→Nat×St:=fun j=>nomatch j
theorem ZEC (L:Lt):entryA Go.Proofs.Tryz.prog (clOf ZsV) ZqN Go.Proofs.Tryz.f99 ZmX L (toForms ZfO (()))=(ZvH).run (fun v=>some (ZmF v,tps (toForms ZfO (())))) fun j=>L (ZeC j).1 (ZeC j).2:=by kernel_rfl
theorem ZF8:∀(L:Lt) (j:Empty),procOf (procsF Go.Proofs.Tryz.prog (clOf ZsV) ZqN Go.Proofs.Tryz.f99 ZmX (toForms ZfO (()))) (ZeC j).1 L (ZeC j).2=(ZyD j).run (fun v=>some (ZmF v,tps (toForms ZfO (())))) fun j=>L (ZeC j).1 (ZeC j).2:=fun L j=>nomatch j
noncomputable def Zyo:Run:=entT ZfO ZmF (fun a=>ZcJ)
theorem ZEA:EntOK Go.Proofs.Tryz.prog 99 Zyo:=Zaw (tb:=ZqN) (c:=ZmX) ZGe (by kernel_rfl) (by kernel_rfl) (by kernel_rfl) (fun a=>by kernel_rfl) fun _=>Zl (c:=ZmX) (K:=fun v=>(ZmF v,tps (toForms ZfO (())))) (S:=ZeC) (by kernel_rfl) (ZEC) (ZF8) (ZHW)
end
end Go.Ev
end

section
open Go Go.Ev
namespace Go.Ev
noncomputable section
def ZhD:Sig:=[(false,.str)]
noncomputable def ZuH:Tbl:=[(97,ZBh),(68,Zmq),(98,ZD1),(99,Zyo)]
theorem ZJV:∀p∈ZuH,EntOK Go.Proofs.Tryz.prog p.1 p.2:=Zg ZHA (Zg Zpb (Zg ZKR (Zg ZEA (Zt))))
noncomputable def Zq2:Code:=Go.Proofs.Tryz.f64.body.getD .skip
def Zrv:Tb:=[]
def ZuK (s:ByteArray):Empty→JT Empty (Bool):=fun j=>nomatch j
def ZrA (s:ByteArray):JT Empty (Bool):=.br (! (eqB s (bs []))) (.br (eqB s (bs [115,121,109])) (.leaf true) (.br (eqB s (bs [116,104,114,101,97,100])) (.leaf true) (.br (eqB s (bs [108,111,99,107])) (.leaf true) (.br (Zam ZbV s) (.br (decide ((Z0 ZbV s)≥(0:Int))) (.leaf true) (.br (Zam Zdg s) (.br (decide ((Z0 Zdg s) > (0:Int))) (.leaf true) (.br (Zam ZcJ s) (.leaf (decide ((Z0 ZcJ s) > (0:Int)))) (.no))) (.no))) (.no))))) (.leaf false)
def ZuS (s:ByteArray):Bool:=bif (! (eqB s (bs []))) then bif (eqB s (bs [115,121,109])) then true else bif (eqB s (bs [116,104,114,101,97,100])) then true else bif (eqB s (bs [108,111,99,107])) then true else bif (Zam ZbV s) then bif (decide ((Z0 ZbV s)≥(0:Int))) then true else bif (Zam Zdg s) then bif (decide ((Z0 Zdg s) > (0:Int))) then true else bif (Zam ZcJ s) then (decide ((Z0 ZcJ s) > (0:Int))) else false else false else false else false
def Zsg (s:ByteArray):Bool:=bif (! (eqB s (bs []))) then bif (eqB s (bs [115,121,109])) then true else bif (eqB s (bs [116,104,114,101,97,100])) then true else bif (eqB s (bs [108,111,99,107])) then true else bif (Zam ZbV s) then bif (decide ((Z0 ZbV s)≥(0:Int))) then true else bif (Zam Zdg s) then bif (decide ((Z0 Zdg s) > (0:Int))) then true else bif (Zam ZcJ s) then true else false else false else false else true
theorem ZIQ (s:ByteArray) (hk:Zsg s=true):Goes (ZuK s) (ZrA s) (ZuS s):=Goes.brk hk (fun hk=>Goes.brk hk (fun hk=>Goes.leaf) (fun hk=>Goes.brk hk (fun hk=>Goes.leaf) (fun hk=>Goes.brk hk (fun hk=>Goes.leaf) (fun hk=>Goes.brk hk (fun hk=>Goes.brk hk (fun hk=>Goes.leaf) (fun hk=>Goes.brk hk (fun hk=>Goes.brk hk (fun hk=>Goes.leaf) (fun hk=>Goes.brk hk (fun hk=>Goes.leaf) (fun hk=>Goes.nok hk))) (fun hk=>Goes.nok hk))) (fun hk=>Goes.nok hk))))) (fun hk=>Goes.leaf)
def ZqB:Bool→AV:=fun (r:Bool)=>.d .bool r
def ZgJ (s:ByteArray):Empty→Nat×St:=fun j=>nomatch j
theorem ZI9 (s:ByteArray) (L:Lt):entryA Go.Proofs.Tryz.prog (clOf ZuH) Zrv Go.Proofs.Tryz.f64 Zq2 L (toForms ZhD (s,()))=(ZrA s).run (fun v=>some (ZqB v,tps (toForms ZhD (s,())))) fun j=>L (ZgJ s j).1 (ZgJ s j).2:=by kernel_rfl
theorem ZKi (s:ByteArray):∀(L:Lt) (j:Empty),procOf (procsF Go.Proofs.Tryz.prog (clOf ZuH) Zrv Go.Proofs.Tryz.f64 Zq2 (toForms ZhD (s,()))) (ZgJ s j).1 L (ZgJ s j).2=(ZuK s j).run (fun v=>some (ZqB v,tps (toForms ZhD (s,())))) fun j=>L (ZgJ s j).1 (ZgJ s j).2:=fun L j=>nomatch j
end
end Go.Ev
end

section
open Go
namespace Go.Ev
def Ziy (s:ByteArray):Bool:=ZcF s
theorem ZKJ (s:ByteArray):Goes (ZuK s) (ZrA s) (Ziy s):=by
 have hk:∀l:List ByteArray,l.length < 100→Zam l s=true:=fun l h=>decide_eq_true (by omega)
 have h1:Zam ZbV s=true:=hk _ (by decide)
 have h2:Zam Zdg s=true:=hk _ (by decide)
 have h3:Zam ZcJ s=true:=hk _ (by decide)
 have hku:Zsg s=true:=by
  unfold Zsg
  simp only[h1,h2,h3,cond_true]
  cases eqB s (bs []) <;> cases eqB s (bs [115,121,109]) <;> cases eqB s (bs [116,104,114,101,97,100]) <;> cases eqB s (bs [108,111,99,107]) <;> cases decide (Z0 ZbV s≥0) <;> cases decide (Z0 Zdg s > 0) <;> rfl
 have hv:Ziy s=ZuS s:=by
  unfold Ziy ZuS ZcF
  simp only[h1,h2,h3,cond_true,ZOe]
  have hr:decide (Z0 ZbV s≥0)=(findFrom s ZaH 0).isSome:=by
   unfold Z0
   rw[show ZbV=ZaH from rfl]
   cases findFrom s ZaH 0 <;> simp
  have hR:(Zg9 s).2=(findFrom s ZaH 0).isSome:=by
   unfold Zg9
   cases findFrom s ZaH 0 <;> rfl
  rw[hr,hR]
  by_cases h0:s=bs []
  ·subst h0
   decide
  have hidx:∀l:List ByteArray,decide (Z0 (bs [] :: l) s > 0)=(findFrom s l 0).isSome:=by
   intro l
   unfold Z0
   rw[show findFrom s (bs [] :: l) 0=findFrom s l (0+1) by rw[findFrom,if_neg (fun e=>h0 e.symm)],Zt4 (k:=0) (j:=0+1)]
   cases h:findFrom s l (0+1) with
   | none=>simp
   | some n=>have:=Zw7 h;simp;omega
  have ho:=hidx ZaV
  have hj:=hidx Zal
  rw[show Zdg=bs [] :: ZaV from rfl,ho,show ZcJ=bs [] :: Zal from rfl,hj]
  have hO:(ZiM s).2.2=((findFrom s ZaV 0).isSome || (findFrom s Zal 0).isSome):=by
   unfold ZiM
   rw[if_neg h0]
   cases findFrom s ZaV 0 with
   | some k=>rfl
   | none=>cases findFrom s Zal 0 <;> rfl
  rw[hO]
  simp only[h0,decide_false,Bool.not_false,cond_true]
  cases (findFrom s ZaV 0).isSome <;> cases (findFrom s Zal 0).isSome <;> rfl
 rw[hv]
 exact ZIQ s hku
end Go.Ev
end

section
open Go Go.Ev
namespace Go.Ev
noncomputable section
noncomputable def ZAR:Run:=entT ZhD ZqB (fun a=>Ziy a.1)
theorem ZHJ:EntOK Go.Proofs.Tryz.prog 64 ZAR:=Zaw (tb:=Zrv) (c:=Zq2) ZJV (by kernel_rfl) (by kernel_rfl) (by kernel_rfl) (fun a=>by kernel_rfl) fun ⟨s,_⟩=>Zl (c:=Zq2) (K:=fun v=>(ZqB v,tps (toForms ZhD (s,())))) (S:=ZgJ s) (by kernel_rfl) (ZI9 s) (ZKi s) (ZKJ s)
end
end Go.Ev
end

section
open Go Go.Ev
namespace Go.Ev
noncomputable section
def Zem:Sig:=[(false,(.int .i32))]
noncomputable def Zo5:Tbl:=[]
theorem ZDq:∀p∈Zo5,EntOK Go.Proofs.Tryz.prog p.1 p.2:=Zt
noncomputable def Zkg:Code:=Go.Proofs.Tryz.f65.body.getD .skip
def ZnN:Tb:=[]
def Zwa (r:Int):Empty→JT Empty (Bool):=fun j=>nomatch j
def Zug (r:Int):JT Empty (Bool):=.br (decide (r≥(97:Int))) (.br (decide (r≤(122:Int))) (.leaf true) (.br (decide (r≥(65:Int))) (.br (decide (r≤(90:Int))) (.leaf true) (.br (r==(95:Int)) (.leaf true) (.br (decide (r≥(161:Int))) (.leaf (decide (r≤(1114111:Int)))) (.leaf false)))) (.br (r==(95:Int)) (.leaf true) (.br (decide (r≥(161:Int))) (.leaf (decide (r≤(1114111:Int)))) (.leaf false))))) (.br (decide (r≥(65:Int))) (.br (decide (r≤(90:Int))) (.leaf true) (.br (r==(95:Int)) (.leaf true) (.br (decide (r≥(161:Int))) (.leaf (decide (r≤(1114111:Int)))) (.leaf false)))) (.br (r==(95:Int)) (.leaf true) (.br (decide (r≥(161:Int))) (.leaf (decide (r≤(1114111:Int)))) (.leaf false))))
def ZkC (r:Int):Bool:=bif (decide (r≥(97:Int))) then bif (decide (r≤(122:Int))) then true else bif (decide (r≥(65:Int))) then bif (decide (r≤(90:Int))) then true else bif (r==(95:Int)) then true else bif (decide (r≥(161:Int))) then (decide (r≤(1114111:Int))) else false else bif (r==(95:Int)) then true else bif (decide (r≥(161:Int))) then (decide (r≤(1114111:Int))) else false else bif (decide (r≥(65:Int))) then bif (decide (r≤(90:Int))) then true else bif (r==(95:Int)) then true else bif (decide (r≥(161:Int))) then (decide (r≤(1114111:Int))) else false else bif (r==(95:Int)) then true else bif (decide (r≥(161:Int))) then (decide (r≤(1114111:Int))) else false
theorem ZFu (r:Int):Goes (Zwa r) (Zug r) (ZkC r):=Goes.br (Goes.br (Goes.leaf) (Goes.br (Goes.br (Goes.leaf) (Goes.br (Goes.leaf) (Goes.br (Goes.leaf) (Goes.leaf)))) (Goes.br (Goes.leaf) (Goes.br (Goes.leaf) (Goes.leaf))))) (Goes.br (Goes.br (Goes.leaf) (Goes.br (Goes.leaf) (Goes.br (Goes.leaf) (Goes.leaf)))) (Goes.br (Goes.leaf) (Goes.br (Goes.leaf) (Goes.leaf))))
def ZkW:Bool→AV:=fun (r:Bool)=>.d .bool r
def ZdD (r:Int):Empty→Nat×St:=fun j=>nomatch j
theorem ZCR (r:Int) (L:Lt):entryA Go.Proofs.Tryz.prog (clOf Zo5) ZnN Go.Proofs.Tryz.f65 Zkg L (toForms Zem (r,()))=(Zug r).run (fun v=>some (ZkW v,tps (toForms Zem (r,())))) fun j=>L (ZdD r j).1 (ZdD r j).2:=by kernel_rfl
theorem ZDf (r:Int):∀(L:Lt) (j:Empty),procOf (procsF Go.Proofs.Tryz.prog (clOf Zo5) ZnN Go.Proofs.Tryz.f65 Zkg (toForms Zem (r,()))) (ZdD r j).1 L (ZdD r j).2=(Zwa r j).run (fun v=>some (ZkW v,tps (toForms Zem (r,())))) fun j=>L (ZdD r j).1 (ZdD r j).2:=fun L j=>nomatch j
noncomputable def Zwz:Run:=entT Zem ZkW (fun a=>ZkC a.1)
theorem ZCB:EntOK Go.Proofs.Tryz.prog 65 Zwz:=Zaw (tb:=ZnN) (c:=Zkg) ZDq (by kernel_rfl) (by kernel_rfl) (by kernel_rfl) (fun a=>by kernel_rfl) fun ⟨r,_⟩=>Zl (c:=Zkg) (K:=fun v=>(ZkW v,tps (toForms Zem (r,())))) (S:=ZdD r) (by kernel_rfl) (ZCR r) (ZDf r) (ZFu r)
end
end Go.Ev
end

section
open Go Go.Ev
namespace Go.Ev
noncomputable section
def Zf6:Sig:=[(false,(.int .i32))]
noncomputable def Zsx:Tbl:=[]
theorem ZFF:∀p∈Zsx,EntOK Go.Proofs.Tryz.prog p.1 p.2:=Zt
noncomputable def Zng:Code:=Go.Proofs.Tryz.f66.body.getD .skip
def Zpp:Tb:=[]
def Zy1 (r:Int):Empty→JT Empty (Bool):=fun j=>nomatch j
def ZwQ (r:Int):JT Empty (Bool):=.br (decide (r≥(48:Int))) (.leaf (decide (r≤(57:Int)))) (.leaf false)
def ZnD (r:Int):Bool:=bif (decide (r≥(48:Int))) then (decide (r≤(57:Int))) else false
theorem ZHN (r:Int):Goes (Zy1 r) (ZwQ r) (ZnD r):=Goes.br (Goes.leaf) (Goes.leaf)
def Zni:Bool→AV:=fun (r:Bool)=>.d .bool r
def Zfj (r:Int):Empty→Nat×St:=fun j=>nomatch j
theorem ZFA (r:Int) (L:Lt):entryA Go.Proofs.Tryz.prog (clOf Zsx) Zpp Go.Proofs.Tryz.f66 Zng L (toForms Zf6 (r,()))=(ZwQ r).run (fun v=>some (Zni v,tps (toForms Zf6 (r,())))) fun j=>L (Zfj r j).1 (Zfj r j).2:=by kernel_rfl
theorem ZFN (r:Int):∀(L:Lt) (j:Empty),procOf (procsF Go.Proofs.Tryz.prog (clOf Zsx) Zpp Go.Proofs.Tryz.f66 Zng (toForms Zf6 (r,()))) (Zfj r j).1 L (Zfj r j).2=(Zy1 r j).run (fun v=>some (Zni v,tps (toForms Zf6 (r,())))) fun j=>L (Zfj r j).1 (Zfj r j).2:=fun L j=>nomatch j
noncomputable def Zyj:Run:=entT Zf6 Zni (fun a=>ZnD a.1)
theorem ZGv:EntOK Go.Proofs.Tryz.prog 66 Zyj:=Zaw (tb:=Zpp) (c:=Zng) ZFF (by kernel_rfl) (by kernel_rfl) (by kernel_rfl) (fun a=>by kernel_rfl) fun ⟨r,_⟩=>Zl (c:=Zng) (K:=fun v=>(Zni v,tps (toForms Zf6 (r,())))) (S:=Zfj r) (by kernel_rfl) (ZFA r) (ZFN r) (ZHN r)
end
end Go.Ev
end

section
open Go Go.Ev
namespace Go.Ev
noncomputable section
def ZfZ:Sig:=[(false,.str)]
noncomputable def ZsP:Tbl:=[(63,ZyW),(64,ZAR),(65,Zwz),(66,Zyj)]
theorem ZEV:∀p∈ZsP,EntOK Go.Proofs.Tryz.prog p.1 p.2:=Zg ZF7 (Zg ZHJ (Zg ZCB (Zg ZGv (Zt))))
noncomputable def ZmM:Code:=Go.Proofs.Tryz.f37.body.getD .skip
def Zpy:Tb:=[(7,⟨[3,4],[]⟩)]
inductive ZjB where | l7 (i:Int)
def ZjE (s:ByteArray):ZjB→JT ZjB (Bool) |.l7 i=>.br (decide (i < (Int.ofNat (List.length (Z4 s))))) (.br ((decide ((0:Int)≤i))&&(decide (i < (Int.ofNat (List.length (Z4 s)))))) (.br (List.getD (Z4 s) (Int.toNat i) (dflt Zu)).2.2.2.2.2 (.leaf false) (.br ((decide ((0:Int)≤i))&&(decide (i < (Int.ofNat (List.length (Z4 s)))))) (.br (! (ZkC (List.getD (Z4 s) (Int.toNat i) (dflt Zu)).1)) (.br (i==(0:Int)) (.leaf false) (.br ((decide ((0:Int)≤i))&&(decide (i < (Int.ofNat (List.length (Z4 s)))))) (.br (! (ZnD (List.getD (Z4 s) (Int.toNat i) (dflt Zu)).1)) (.leaf false) (.jmp (.l7 (IntKind.i64.wrap (i+(1:Int)))))) (.no))) (.jmp (.l7 (IntKind.i64.wrap (i+(1:Int)))))) (.no))) (.no)) (.leaf true)
def ZpE (s:ByteArray):JT ZjB (Bool):=.br (Zm1 s) (.br (decide ((Int.ofNat (List.length (Z4 s))) < (1:Int))) (.leaf false) (.br (decide ((Int.ofNat (List.length (Z4 s))) > (16:Int))) (.leaf false) (.br (Ziy s) (.leaf false) (.jmp (.l7 (0:Int)))))) (.no)
def Znb:Bool→AV:=fun (r:Bool)=>.d .bool r
def Zfm (s:ByteArray):ZjB→Nat×St |.l7 i=>(7,⟨mkTm 52 [(3,.own 4 0 none),(4,.d (.int .i64) i)],[(4,0,.row 101 Zu (Z4 s) false)]⟩)
theorem ZFn (s:ByteArray) (L:Lt):entryA Go.Proofs.Tryz.prog (clOf ZsP) Zpy Go.Proofs.Tryz.f37 ZmM L (toForms ZfZ (s,()))=(ZpE s).run (fun v=>some (Znb v,tps (toForms ZfZ (s,())))) fun j=>L (Zfm s j).1 (Zfm s j).2:=by kernel_rfl
theorem ZEi (s:ByteArray):∀(L:Lt) (j:ZjB),procOf (procsF Go.Proofs.Tryz.prog (clOf ZsP) Zpy Go.Proofs.Tryz.f37 ZmM (toForms ZfZ (s,()))) (Zfm s j).1 L (Zfm s j).2=(ZjE s j).run (fun v=>some (Znb v,tps (toForms ZfZ (s,())))) fun j=>L (Zfm s j).1 (Zfm s j).2 | L,.l7 i=>by kernel_rfl
end
end Go.Ev
end

section
open Go
namespace Go.Ev
def Zdr (s:ByteArray):Bool:=nameRight s
def Zb6 (s:ByteArray):Bool:=smallText s
theorem ZJN (s:ByteArray) (hk:Zb6 s=true):Goes (ZjE s) (ZpE s) (Zdr s):=by
 have hs:s.size < 549755813888:=of_decide_eq_true hk
 have hl:(Z4 s).length≤s.size:=ZyF s
 have loop:∀k,k≤(Z4 s).length→Goes (ZjE s) (.jmp (.l7 (k:Int))) (spotsOK k ((Z4 s).drop k)):=by
  refine down ?_ fun k hk ih=>?_
  ·rw[Zi]
   simp[ZjE,Ze,ZR,spotsOK]
  ·rw[Zi]
   dsimp only[ZjE]
   simp only[Ze,ZR,ZO hk,nng,Bool.and_self,if_true,Int.toNat_natCast,ZH hk,Zo (k:=k) (by omega)]
   rw[ZN hk,spotsOK]
   generalize (Z4 s)[k]=x at*
   unfold spotOK
   rw[show ZkC=ZcX from rfl,show ZnD=ZdH from rfl]
   cases x.2.2.2.2.2
   ·cases ZcX x.1
    ·by_cases h0:k=0
     ·subst h0;simp
     ·have e1:((k:Int)==0)=false:=by rw[Bool.eq_false_iff];simp;omega
      have e2:(k==0)=false:=by rw[Bool.eq_false_iff];simpa using h0
      cases ZdH x.1
      ·simp[e1,e2]
      ·simpa[e1,e2] using ih
    ·simpa using ih
   ·simp
 have hv:Zdr s=(spotsOK 0 (Z4 s)&&(decide (1≤(Z4 s).length)&&(decide ((Z4 s).length≤16)&& !ZcF s))):=rfl
 rw[hv]
 unfold ZpE
 simp only[Ze,show Zm1 s=true from hk,if_true,Ziy,ZR]
 by_cases h1:1≤(Z4 s).length
 ·by_cases h2:(Z4 s).length≤16
  ·cases ZcF s
   ·rw[if_neg (by simp <;> omega),if_neg (by simp <;> omega)]
    simpa[h1,h2] using loop 0 (Nat.zero_le _)
   ·rw[if_neg (by simp <;> omega),if_neg (by simp <;> omega)]
    simp
  ·rw[if_neg (by simp <;> omega),if_pos (by simp <;> omega)]
   simp[h2]
 ·rw[if_pos (by simp <;> omega)]
  simp[h1]
end Go.Ev
end

section
open Go Go.Ev
namespace Go.Ev
noncomputable section
noncomputable def ZmP:Run:=entG ZfZ Znb (fun a=>Zb6 a.1) (fun a=>Zdr a.1)
theorem ZqL:EntOK Go.Proofs.Tryz.prog 37 ZmP:=ZI (tb:=Zpy) (c:=ZmM) ZEV (by kernel_rfl) (by kernel_rfl) (by kernel_rfl) (fun a=>by kernel_rfl) fun ⟨s,_⟩ hk=>Zl (c:=ZmM) (K:=fun v=>(Znb v,tps (toForms ZfZ (s,())))) (S:=Zfm s) (by kernel_rfl) (ZFn s) (ZEi s) (ZJN s hk)
end
end Go.Ev
end

section
open Go Go.Ev
namespace Go.Ev
noncomputable section
def ZfP:Sig:=[(true,(.sl Za))]
noncomputable def ZsB:Tbl:=[]
theorem ZFX:∀p∈ZsB,EntOK Go.Proofs.Tryz.prog p.1 p.2:=Zt
noncomputable def ZnA:Code:=Go.Proofs.Tryz.f67.body.getD .skip
def Zo6:Tb:=[(4,⟨[1,3,4],[]⟩)]
inductive ZjK where | l4 (n:Int) (i:Int)
def Zjt (t:List (El Za)):ZjK→JT ZjK (Int) |.l4 n i=>.br (decide (i < (Int.ofNat (List.length t)))) (.br ((decide ((0:Int)≤i))&&(decide (i < (Int.ofNat (List.length t))))) (.br ((List.getD t (Int.toNat i) (dflt Za)).1 !=(12:Int)) (.jmp (.l4 (IntKind.i64.wrap (n+(1:Int))) (IntKind.i64.wrap (i+(1:Int))))) (.jmp (.l4 n (IntKind.i64.wrap (i+(1:Int)))))) (.no)) (.leaf n)
def ZpH (t:List (El Za)):JT ZjK (Int):=.jmp (.l4 (0:Int) (0:Int))
def ZmI:Int→AV:=fun (r:Int)=>.d (.int .i64) r
def ZeY (t:List (El Za)):ZjK→Nat×St |.l4 n i=>(4,⟨mkTm 22 [(1,.pt 2 0 0),(3,.d (.int .i64) n),(4,.d (.int .i64) i)],[(2,0,.box 33 [.d (.sl Za) t] none)]⟩)
theorem ZGA (t:List (El Za)) (L:Lt):entryA Go.Proofs.Tryz.prog (clOf ZsB) Zo6 Go.Proofs.Tryz.f67 ZnA L (toForms ZfP (t,()))=(ZpH t).run (fun v=>some (ZmI v,tps (toForms ZfP (t,())))) fun j=>L (ZeY t j).1 (ZeY t j).2:=by kernel_rfl
theorem ZGZ (t:List (El Za)):∀(L:Lt) (j:ZjK),procOf (procsF Go.Proofs.Tryz.prog (clOf ZsB) Zo6 Go.Proofs.Tryz.f67 ZnA (toForms ZfP (t,()))) (ZeY t j).1 L (ZeY t j).2=(Zjt t j).run (fun v=>some (ZmI v,tps (toForms ZfP (t,())))) fun j=>L (ZeY t j).1 (ZeY t j).2 | L,.l4 n i=>by kernel_rfl
end
end Go.Ev
end

section
open Go
namespace Go.Ev
def ZjF (t:List (El Za)):Int:=(countM t:Int)
def ZmB (t:List (El Za)):Bool:=decide (t.length < 1099511627776)
theorem ZJh (t:List (El Za)) (hk:ZmB t=true):Goes (Zjt t) (ZpH t) (ZjF t):=by
 have hn:t.length < 1099511627776:=of_decide_eq_true hk
 have loop:∀k,k≤t.length→∀n:Nat,n≤k→Goes (Zjt t) (.jmp (.l4 (n:Int) (k:Int))) ((n+countM (t.drop k):Nat):Int):=by
  refine down ?_ fun k hk ih=>?_
  ·intro n hnk
   rw[Zi]
   simp only[Zjt,Ze,Zv (Nat.lt_irrefl _),ZR,List.drop_length]
   simp[countM]
  ·intro n hnk
   rw[Zi]
   simp only[Zjt,Ze,ZO hk,nng,Bool.and_self,if_true,Int.toNat_natCast,ZH hk,Zo (k:=k) (by omega),Zo (k:=n) (by omega)]
   rw[ZN hk]
   unfold countM
   rw[List.filter_cons]
   split
   ·rename_i h
    have:=ih (n+1) (by omega)
    unfold countM at this
    rw[List.length_cons,show n+((List.filter (fun i=>i.1 !=(12:Int)) (List.drop (k+1) t)).length+1)=n+1+(List.filter (fun i=>i.1 !=(12:Int)) (List.drop (k+1) t)).length by omega]
    exact this
   ·exact ih n (by omega)
 have:=loop 0 (Nat.zero_le _) 0 (Nat.le_refl _)
 unfold ZpH ZjF
 simpa using this
end Go.Ev
end

section
open Go Go.Ev
namespace Go.Ev
noncomputable section
noncomputable def ZyC:Run:=entG ZfP ZmI (fun a=>ZmB a.1) (fun a=>ZjF a.1)
theorem ZG7:EntOK Go.Proofs.Tryz.prog 67 ZyC:=ZI (tb:=Zo6) (c:=ZnA) ZFX (by kernel_rfl) (by kernel_rfl) (by kernel_rfl) (fun a=>by kernel_rfl) fun ⟨t,_⟩ hk=>Zl (c:=ZnA) (K:=fun v=>(ZmI v,tps (toForms ZfP (t,())))) (S:=ZeY t) (by kernel_rfl) (ZGA t) (ZGZ t) (ZJh t hk)
end
end Go.Ev
end

section
open Go Go.Ev
namespace Go.Ev
noncomputable section
def Zcq:Sig:=[(true,Za)]
noncomputable def Zlv:Tbl:=[(100,ZD3),(71,Zm7),(37,ZmP)]
theorem ZzA:∀p∈Zlv,EntOK Go.Proofs.Tryz.prog p.1 p.2:=Zg ZLQ (Zg Zo2 (Zg ZqL (Zt)))
noncomputable def Zid:Code:=Go.Proofs.Tryz.f69.body.getD .skip
def Zj6:Tb:=[(2,⟨[1,26,34,37,44,47],[]⟩),(5,⟨[1,49],[]⟩)]
inductive ZeS where | l2 (h:Bool) | l5 (h:Bool)
def Zfc (i:El Za):ZeS→JT ZeS (Int) |.l2 h=>.br h (.leaf (4:Int)) (.br (i.1==(11:Int)) (.br (decide (i.2.2.1 < (1:Int))) (.jmp (.l5 true)) (.br (decide (i.2.2.1 > (10:Int))) (.jmp (.l5 true)) (.br (i.1 !=(11:Int)) (.jmp (.l5 (i.2.2.1 !=(0:Int)))) (.jmp (.l5 false))))) (.br (i.1 !=(11:Int)) (.jmp (.l5 (i.2.2.1 !=(0:Int)))) (.jmp (.l5 false)))) |.l5 h=>.br h (.leaf (4:Int)) (.br (ZaG i.1) (.br (Zb6 i.2.2.2.2.2.1) (.br (! (Zdr i.2.2.2.2.2.1)) (.leaf (3:Int)) (.leaf (0:Int))) (.no)) (.leaf (0:Int)))
def ZjZ (i:El Za):JT ZeS (Int):=.br (decide (i.1 < (1:Int))) (.jmp (.l2 true)) (.br (decide (i.1 > (14:Int))) (.jmp (.l2 true)) (.br (! (Zai i)) (.jmp (.l2 true)) (.br (! (ZaG i.1)) (.jmp (.l2 (! (eqB i.2.2.2.2.2.1 (bs []))))) (.jmp (.l2 false)))))
def ZaY (i:El Za) (h:Bool):Int:=bif h then (4:Int) else bif (ZaG i.1) then bif (Zb6 i.2.2.2.2.2.1) then bif (! (Zdr i.2.2.2.2.2.1)) then (3:Int) else (0:Int) else (0:Int) else (0:Int)
def ZaX (i:El Za) (h:Bool):Bool:=bif h then true else bif (ZaG i.1) then bif (Zb6 i.2.2.2.2.2.1) then bif (! (Zdr i.2.2.2.2.2.1)) then true else true else false else true
theorem ZbS (i:El Za) (h:Bool) (hk:ZaX i h=true):Goes (Zfc i) (.jmp (.l5 h)) (ZaY i h):=Goes.jmp (Goes.brk hk (fun hk=>Goes.leaf) (fun hk=>Goes.brk hk (fun hk=>Goes.brk hk (fun hk=>Goes.brk hk (fun hk=>Goes.leaf) (fun hk=>Goes.leaf)) (fun hk=>Goes.nok hk)) (fun hk=>Goes.leaf)))
def Zbh (i:El Za) (h:Bool):Int:=bif h then (4:Int) else bif (i.1==(11:Int)) then bif (decide (i.2.2.1 < (1:Int))) then ZaY i true else bif (decide (i.2.2.1 > (10:Int))) then ZaY i true else bif (i.1 !=(11:Int)) then ZaY i (i.2.2.1 !=(0:Int)) else ZaY i false else bif (i.1 !=(11:Int)) then ZaY i (i.2.2.1 !=(0:Int)) else ZaY i false
def Zbj (i:El Za) (h:Bool):Bool:=bif h then true else bif (i.1==(11:Int)) then bif (decide (i.2.2.1 < (1:Int))) then ZaX i true else bif (decide (i.2.2.1 > (10:Int))) then ZaX i true else bif (i.1 !=(11:Int)) then ZaX i (i.2.2.1 !=(0:Int)) else ZaX i false else bif (i.1 !=(11:Int)) then ZaX i (i.2.2.1 !=(0:Int)) else ZaX i false
theorem ZcA (i:El Za) (h:Bool) (hk:Zbj i h=true):Goes (Zfc i) (.jmp (.l2 h)) (Zbh i h):=Goes.jmp (Goes.brk hk (fun hk=>Goes.leaf) (fun hk=>Goes.brk hk (fun hk=>Goes.brk hk (fun hk=>ZbS i true hk) (fun hk=>Goes.brk hk (fun hk=>ZbS i true hk) (fun hk=>Goes.brk hk (fun hk=>ZbS i (i.2.2.1 !=(0:Int)) hk) (fun hk=>ZbS i false hk)))) (fun hk=>Goes.brk hk (fun hk=>ZbS i (i.2.2.1 !=(0:Int)) hk) (fun hk=>ZbS i false hk))))
def Zh2 (i:El Za):Int:=bif (decide (i.1 < (1:Int))) then Zbh i true else bif (decide (i.1 > (14:Int))) then Zbh i true else bif (! (Zai i)) then Zbh i true else bif (! (ZaG i.1)) then Zbh i (! (eqB i.2.2.2.2.2.1 (bs []))) else Zbh i false
def Zj1 (i:El Za):Bool:=bif (decide (i.1 < (1:Int))) then Zbj i true else bif (decide (i.1 > (14:Int))) then Zbj i true else bif (! (Zai i)) then Zbj i true else bif (! (ZaG i.1)) then Zbj i (! (eqB i.2.2.2.2.2.1 (bs []))) else Zbj i false
theorem Zzp (i:El Za) (hk:Zj1 i=true):Goes (Zfc i) (ZjZ i) (Zh2 i):=Goes.brk hk (fun hk=>ZcA i true hk) (fun hk=>Goes.brk hk (fun hk=>ZcA i true hk) (fun hk=>Goes.brk hk (fun hk=>ZcA i true hk) (fun hk=>Goes.brk hk (fun hk=>ZcA i (! (eqB i.2.2.2.2.2.1 (bs []))) hk) (fun hk=>ZcA i false hk))))
def Zij:Int→AV:=fun (r:Int)=>.d (.int .i64) r
def Zcl (i:El Za):ZeS→Nat×St |.l2 h=>(2,⟨mkTm 59 [(1,.pt 2 0 0),(26,.d .bool h)],[(2,0,.box 53 [.d (.int .i64) i.1,.d .bool i.2.1,.d (.int .i64) i.2.2.1,.d (.int .i64) i.2.2.2.1.1,.d (.int .i64) i.2.2.2.1.2.1,.d (.int .i64) i.2.2.2.1.2.2.1,.d (.int .i64) i.2.2.2.1.2.2.2,.d (.int .i64) i.2.2.2.2.1.1,.d (.int .i64) i.2.2.2.2.1.2.1,.d (.int .i64) i.2.2.2.2.1.2.2.1,.d (.int .i64) i.2.2.2.2.1.2.2.2,.d .str i.2.2.2.2.2.1,.d (.sl .str) i.2.2.2.2.2.2] none)]⟩) |.l5 h=>(5,⟨mkTm 59 [(1,.pt 2 0 0),(49,.d .bool h)],[(2,0,.box 53 [.d (.int .i64) i.1,.d .bool i.2.1,.d (.int .i64) i.2.2.1,.d (.int .i64) i.2.2.2.1.1,.d (.int .i64) i.2.2.2.1.2.1,.d (.int .i64) i.2.2.2.1.2.2.1,.d (.int .i64) i.2.2.2.1.2.2.2,.d (.int .i64) i.2.2.2.2.1.1,.d (.int .i64) i.2.2.2.2.1.2.1,.d (.int .i64) i.2.2.2.2.1.2.2.1,.d (.int .i64) i.2.2.2.2.1.2.2.2,.d .str i.2.2.2.2.2.1,.d (.sl .str) i.2.2.2.2.2.2] none)]⟩)
theorem Zzi (i:El Za) (L:Lt):entryA Go.Proofs.Tryz.prog (clOf Zlv) Zj6 Go.Proofs.Tryz.f69 Zid L (toForms Zcq (i,()))=(ZjZ i).run (fun v=>some (Zij v,tps (toForms Zcq (i,())))) fun j=>L (Zcl i j).1 (Zcl i j).2:=by kernel_rfl
theorem Zzm (i:El Za):∀(L:Lt) (j:ZeS),procOf (procsF Go.Proofs.Tryz.prog (clOf Zlv) Zj6 Go.Proofs.Tryz.f69 Zid (toForms Zcq (i,()))) (Zcl i j).1 L (Zcl i j).2=(Zfc i j).run (fun v=>some (Zij v,tps (toForms Zcq (i,())))) fun j=>L (Zcl i j).1 (Zcl i j).2 | L,.l2 h=>by kernel_rfl | L,.l5 h=>by kernel_rfl
end
end Go.Ev
end

section
open Go
namespace Go.Ev
def ZqT (op cond:Int) (row nm te:Bool) (h:Bool):Int:=
 bif h then
  (4:Int)
 else bif (bif (op==(10:Int)) then true else (op==(11:Int))) then
  bif true then
   bif (! nm) then
    (3:Int)
   else (0:Int)
  else (0:Int)
 else (0:Int)
def ZtK (op cond:Int) (row nm te:Bool) (h:Bool):Int:=
 bif h then
  (4:Int)
 else bif (op==(11:Int)) then
  bif (decide (cond < (1:Int))) then
   ZqT op cond row nm te true
  else bif (decide (cond > (10:Int))) then
   ZqT op cond row nm te true
  else bif (op !=(11:Int)) then
   ZqT op cond row nm te (cond !=(0:Int))
  else ZqT op cond row nm te false
 else bif (op !=(11:Int)) then
  ZqT op cond row nm te (cond !=(0:Int))
 else ZqT op cond row nm te false
def refRB (op cond:Int) (row nm te:Bool):Int:=
 bif (decide (op < (1:Int))) then
  ZtK op cond row nm te true
 else bif (decide (op > (14:Int))) then
  ZtK op cond row nm te true
 else bif (! row) then
  ZtK op cond row nm te true
 else bif (! (bif (op==(10:Int)) then true else (op==(11:Int)))) then
  ZtK op cond row nm te (! te)
 else ZtK op cond row nm te false
def insRB (op cond:Int) (row nm te:Bool):Int:=
 bif (op==(10:Int)) then
  bif (! (decide (1≤op)&&(decide (op≤14)&&(row&&condOK op cond)))) then
   (4:Int)
  else bif true then
   bif (! nm) then
    (3:Int)
   else (0:Int)
  else (0:Int)
 else bif (! (decide (1≤op)&&(decide (op≤14)&&(row&&condOK op cond)))) then
  (4:Int)
 else bif (! (op==(11:Int))) then
  bif (! te) then
   (4:Int)
  else bif (op==(11:Int)) then
   bif true then
    bif (! nm) then
     (3:Int)
    else (0:Int)
   else (0:Int)
  else (0:Int)
 else bif (op==(11:Int)) then
  bif true then
   bif (! nm) then
    (3:Int)
   else (0:Int)
  else (0:Int)
 else (0:Int)
theorem rightB (op cond:Int) (row nm te:Bool):refRB op cond row nm te=insRB op cond row nm te:=by
 unfold refRB ZtK ZqT insRB condOK
 have beqs:∀(k c:Int),(k==c)=decide (k=c):=fun k c=>by rw[Bool.eq_iff_iff];simp
 have bnes:∀(k c:Int),(k !=c)=!decide (k=c):=fun k c=>by rw[Bool.eq_iff_iff];simp
 simp only[beqs,bnes]
 by_cases h1:op < 1
 ·have e1:decide (op=10)=false:=by simp;omega
  have e2:decide (op=11)=false:=by simp;omega
  have e3:decide (1≤op)=false:=by simp;omega
  simp[h1,e1,e2,e3]
 by_cases h2:op > 14
 ·have e1:decide (op=10)=false:=by simp;omega
  have e2:decide (op=11)=false:=by simp;omega
  have e3:decide (op≤14)=false:=by simp;omega
  simp[h1,h2,e1,e2,e3]
 have e3:decide (1≤op)=true:=by simp;omega
 have e4:decide (op≤14)=true:=by simp;omega
 by_cases h10:op=10
 ·subst h10
  by_cases hc:cond=0 <;> cases row <;> cases nm <;> simp[hc]
 by_cases h11:op=11
 ·subst h11
  have f1:decide (1≤cond)=!decide (cond < 1):=by by_cases h:cond < 1 <;> simp[h] <;> omega
  have f2:decide (cond≤10)=!decide (cond > 10):=by by_cases h:cond > 10 <;> simp[h] <;> omega
  rw[f1,f2]
  by_cases hc:cond < 1 <;> by_cases hd:cond > 10 <;> cases row <;> cases nm <;> simp[hc,hd]
 by_cases hc:cond=0 <;> cases row <;> cases te <;> simp[h1,h2,h10,h11,e3,e4,hc]
def ZC (i:El Za):Int:=Zz i
def ZB (i:El Za):Bool:=smallText i.2.2.2.2.2.1
theorem ZBE (i:El Za) (hk:ZB i=true):Goes (Zfc i) (ZjZ i) (ZC i):=by
 have h1:Zb6 i.2.2.2.2.2.1=true:=hk
 have h2:Zad i.2.2.2.2.2.1=true:=hk
 have hku:Zj1 i=true:=by
  unfold Zj1 Zbj ZaX
  simp only[h1,cond_true,Bool.cond_self]
 have hr:Zh2 i=refRB i.1 i.2.2.1 (Zai i) (nameRight i.2.2.2.2.2.1) (eqB i.2.2.2.2.2.1 (bs [])):=by
  unfold Zh2 Zbh ZaY
  simp only[h1]
  rfl
 have hp:Zc5 i=insRB i.1 i.2.2.1 (Zai i) (nameRight i.2.2.2.2.2.1) (eqB i.2.2.2.2.2.1 (bs [])):=by
  unfold Zc5
  simp only[h2,ZzW]
  rfl
 have e:ZC i=Zh2 i:=by
  rw[hr,rightB,←hp]
  rfl
 rw[e]
 exact Zzp i hku
end Go.Ev
end

section
open Go Go.Ev
namespace Go.Ev
noncomputable section
noncomputable def Zcg:Run:=entG Zcq Zij (fun a=>ZB a.1) (fun a=>ZC a.1)
theorem Zcu:EntOK Go.Proofs.Tryz.prog 69 Zcg:=ZI (tb:=Zj6) (c:=Zid) ZzA (by kernel_rfl) (by kernel_rfl) (by kernel_rfl) (fun a=>by kernel_rfl) fun ⟨i,_⟩ hk=>Zl (c:=Zid) (K:=fun v=>(Zij v,tps (toForms Zcq (i,())))) (S:=Zcl i) (by kernel_rfl) (Zzi i) (Zzm i) (ZBE i hk)
end
end Go.Ev
end

section
open Go Go.Ev
namespace Go.Ev
noncomputable section
def Zdj:Sig:=[(true,Zc),(true,Zh)]
noncomputable def Zn4:Tbl:=[(101,ZhV)]
theorem Zz6:∀p∈Zn4,EntOK Go.Proofs.Tryz.prog p.1 p.2:=Zg Zjo (Zt)
noncomputable def Zji:Code:=Go.Proofs.Tryz.f70.body.getD .skip
def Zlr:Tb:=[]
def ZuD (p:El Zc) (o:El Zh):Empty→JT Empty (Int):=fun j=>nomatch j
def ZrI (p:El Zc) (o:El Zh):JT Empty (Int):=.br (! (ZF o)) (.leaf (0:Int)) (.br (decide (o.2.2.1≥(Int.ofNat (List.length p.1)))) (.leaf (7:Int)) (.br (o.1==(3:Int)) (.br ((decide ((0:Int)≤o.2.2.1))&&(decide (o.2.2.1 < (Int.ofNat (List.length p.1))))) (.br (decide (o.2.2.2≥(List.getD p.1 (Int.toNat o.2.2.1) (dflt Zx)).2.1)) (.leaf (8:Int)) (.leaf (0:Int))) (.no)) (.leaf (0:Int))))
def Zb5 (p:El Zc) (o:El Zh):Int:=bif (! (ZF o)) then (0:Int) else bif (decide (o.2.2.1≥(Int.ofNat (List.length p.1)))) then (7:Int) else bif (o.1==(3:Int)) then bif ((decide ((0:Int)≤o.2.2.1))&&(decide (o.2.2.1 < (Int.ofNat (List.length p.1))))) then bif (decide (o.2.2.2≥(List.getD p.1 (Int.toNat o.2.2.1) (dflt Zx)).2.1)) then (8:Int) else (0:Int) else (0:Int) else (0:Int)
def Zd5 (p:El Zc) (o:El Zh):Bool:=bif (! (ZF o)) then true else bif (decide (o.2.2.1≥(Int.ofNat (List.length p.1)))) then true else bif (o.1==(3:Int)) then bif ((decide ((0:Int)≤o.2.2.1))&&(decide (o.2.2.1 < (Int.ofNat (List.length p.1))))) then bif (decide (o.2.2.2≥(List.getD p.1 (Int.toNat o.2.2.1) (dflt Zx)).2.1)) then true else true else false else true
theorem ZCU (p:El Zc) (o:El Zh) (hk:Zd5 p o=true):Goes (ZuD p o) (ZrI p o) (Zb5 p o):=Goes.brk hk (fun hk=>Goes.leaf) (fun hk=>Goes.brk hk (fun hk=>Goes.leaf) (fun hk=>Goes.brk hk (fun hk=>Goes.brk hk (fun hk=>Goes.brk hk (fun hk=>Goes.leaf) (fun hk=>Goes.leaf)) (fun hk=>Goes.nok hk)) (fun hk=>Goes.leaf)))
def Zi5:Int→AV:=fun (r:Int)=>.d (.int .i64) r
def ZcQ (p:El Zc) (o:El Zh):Empty→Nat×St:=fun j=>nomatch j
theorem ZBH (p:El Zc) (o:El Zh) (L:Lt):entryA Go.Proofs.Tryz.prog (clOf Zn4) Zlr Go.Proofs.Tryz.f70 Zji L (toForms Zdj (p,o,()))=(ZrI p o).run (fun v=>some (Zi5 v,tps (toForms Zdj (p,o,())))) fun j=>L (ZcQ p o j).1 (ZcQ p o j).2:=by kernel_rfl
theorem ZBc (p:El Zc) (o:El Zh):∀(L:Lt) (j:Empty),procOf (procsF Go.Proofs.Tryz.prog (clOf Zn4) Zlr Go.Proofs.Tryz.f70 Zji (toForms Zdj (p,o,()))) (ZcQ p o j).1 L (ZcQ p o j).2=(ZuD p o j).run (fun v=>some (Zi5 v,tps (toForms Zdj (p,o,())))) fun j=>L (ZcQ p o j).1 (ZcQ p o j).2:=fun L j=>nomatch j
noncomputable def ZuB:Run:=entG Zdj Zi5 (fun a=>Zd5 a.1 a.2.1) (fun a=>Zb5 a.1 a.2.1)
theorem ZBK:EntOK Go.Proofs.Tryz.prog 70 ZuB:=ZI (tb:=Zlr) (c:=Zji) Zz6 (by kernel_rfl) (by kernel_rfl) (by kernel_rfl) (fun a=>by kernel_rfl) fun ⟨p,o,_⟩ hk=>Zl (c:=Zji) (K:=fun v=>(Zi5 v,tps (toForms Zdj (p,o,())))) (S:=ZcQ p o) (by kernel_rfl) (ZBH p o) (ZBc p o) (ZCU p o hk)
end
end Go.Ev
end

section
open Go Go.Ev
namespace Go.Ev
noncomputable section
def Zhx:Sig:=[(true,(.sl Za)),(false,.str)]
noncomputable def ZuO:Tbl:=[(68,Zmq)]
theorem ZIc:∀p∈ZuO,EntOK Go.Proofs.Tryz.prog p.1 p.2:=Zg Zpb (Zt)
noncomputable def ZoY:Code:=Go.Proofs.Tryz.f72.body.getD .skip
def ZsI:Tb:=[(3,⟨[1,2,5],[]⟩)]
inductive Zlu where | l3 (i:Int)
def Zld (t:List (El Za)) (label:ByteArray):Zlu→JT Zlu (Int) |.l3 i=>.br (decide (i < (Int.ofNat (List.length t)))) (.br ((decide ((0:Int)≤i))&&(decide (i < (Int.ofNat (List.length t))))) (.br (Zam (List.getD t (Int.toNat i) (dflt Za)).2.2.2.2.2.2 label) (.br (decide ((Z0 (List.getD t (Int.toNat i) (dflt Za)).2.2.2.2.2.2 label)≥(0:Int))) (.leaf i) (.jmp (.l3 (IntKind.i64.wrap (i+(1:Int)))))) (.no)) (.no)) (.leaf (-1:Int))
def ZsW (t:List (El Za)) (label:ByteArray):JT Zlu (Int):=.jmp (.l3 (0:Int))
def Zpj:Int→AV:=fun (r:Int)=>.d (.int .i64) r
def Zg6 (t:List (El Za)) (label:ByteArray):Zlu→Nat×St |.l3 i=>(3,⟨mkTm 23 [(1,.d .str label),(2,.pt 3 0 0),(5,.d (.int .i64) i)],[(3,0,.box 33 [.d (.sl Za) t] none)]⟩)
theorem ZHh (t:List (El Za)) (label:ByteArray) (L:Lt):entryA Go.Proofs.Tryz.prog (clOf ZuO) ZsI Go.Proofs.Tryz.f72 ZoY L (toForms Zhx (t,label,()))=(ZsW t label).run (fun v=>some (Zpj v,tps (toForms Zhx (t,label,())))) fun j=>L (Zg6 t label j).1 (Zg6 t label j).2:=by kernel_rfl
theorem ZJR (t:List (El Za)) (label:ByteArray):∀(L:Lt) (j:Zlu),procOf (procsF Go.Proofs.Tryz.prog (clOf ZuO) ZsI Go.Proofs.Tryz.f72 ZoY (toForms Zhx (t,label,()))) (Zg6 t label j).1 L (Zg6 t label j).2=(Zld t label j).run (fun v=>some (Zpj v,tps (toForms Zhx (t,label,())))) fun j=>L (Zg6 t label j).1 (Zg6 t label j).2 | L,.l3 i=>by kernel_rfl
end
end Go.Ev
end

section
open Go
namespace Go.Ev
def Zc3 (t:List (El Za)) (label:ByteArray):Int:=findI label t 0
def ZeJ (t:List (El Za)) (label:ByteArray):Bool:=decide (t.length < 1099511627776)&&t.all fun i=>decide (i.2.2.2.2.2.2.length < 1099511627776)
theorem ZLP (t:List (El Za)) (label:ByteArray) (hk:ZeJ t label=true):Goes (Zld t label) (ZsW t label) (Zc3 t label):=by
 unfold ZeJ at hk
 simp only[Bool.and_eq_true,decide_eq_true_eq,List.all_eq_true] at hk
 obtain ⟨hn,hl⟩:=hk
 have loop:∀k,k≤t.length→Goes (Zld t label) (.jmp (.l3 (k:Int))) (findI label (t.drop k) k):=by
  refine down ?_ fun k hk ih=>?_
  ·rw[Zi]
   simp only[Zld,Ze,Zv (Nat.lt_irrefl _),ZR,List.drop_length]
   simp[findI]
  ·have hli:=hl t[k] (List.getElem_mem hk)
   have hki:Zam t[k].2.2.2.2.2.2 label=true:=decide_eq_true (by omega)
   rw[Zi]
   simp only[Zld,Ze,ZO hk,nng,Bool.and_self,if_true,Int.toNat_natCast,ZH hk,Zo (k:=k) (by omega),hki]
   rw[ZN hk]
   unfold findI
   have hi:decide (Z0 t[k].2.2.2.2.2.2 label≥0)=t[k].2.2.2.2.2.2.contains label:=by
    rw[←Zi3 (k:=0)]
    unfold Z0
    cases h:findFrom label t[k].2.2.2.2.2.2 0 with
    | none=>rfl
    | some n=>simp
   rw[hi]
   split
   ·exact .leaf
   ·exact ih
 unfold ZsW Zc3
 simpa using loop 0 (Nat.zero_le _)
end Go.Ev
end

section
open Go Go.Ev
namespace Go.Ev
noncomputable section
noncomputable def Zvt:Run:=entG Zhx Zpj (fun a=>ZeJ a.1 a.2.1) (fun a=>Zc3 a.1 a.2.1)
theorem Zye:EntOK Go.Proofs.Tryz.prog 72 Zvt:=ZI (tb:=ZsI) (c:=ZoY) ZIc (by kernel_rfl) (by kernel_rfl) (by kernel_rfl) (fun a=>by kernel_rfl) fun ⟨t,label,_⟩ hk=>Zl (c:=ZoY) (K:=fun v=>(Zpj v,tps (toForms Zhx (t,label,())))) (S:=Zg6 t label) (by kernel_rfl) (ZHh t label) (ZJR t label) (ZLP t label hk)
end
end Go.Ev
end

section
open Go Go.Ev
namespace Go.Ev
noncomputable section
def Zee:Sig:=[(true,Zc),(true,(.sl Za))]
noncomputable def ZqM:Tbl:=[(67,ZyC),(37,ZmP),(68,Zmq),(69,Zcg),(70,ZuB),(71,Zm7),(72,Zvt)]
theorem ZDi:∀p∈ZqM,EntOK Go.Proofs.Tryz.prog p.1 p.2:=Zg ZG7 (Zg ZqL (Zg Zpb (Zg Zcu (Zg ZBK (Zg Zo2 (Zg Zye (Zt)))))))
noncomputable def ZkY:Code:=Go.Proofs.Tryz.f38.body.getD .skip
def Zn3:Tb:=[(7,⟨[2,3,5,6],[(6,102)]⟩),(14,⟨[2,3,5,6,7,8],[(6,102)]⟩),(44,⟨[3,13],[]⟩)]
inductive Zig where | l7 (i:Int) (seen:List ByteArray) | l14 (x:Int) (x1:Bool) (x2:Int) (x3:Int) (x4:Int) (x5:Int) (x6:Int) (x7:Int) (x8:Int) (x9:Int) (x10:Int) (x11:ByteArray) (x12:List ByteArray) (k:Int) (seen:List ByteArray) (i:Int) | l44 (i:Int)
def Zbn (p:El Zc) (t:List (El Za)):Zig→JT Zig (Int) |.l7 i seen=>.br (decide (i < (Int.ofNat (List.length t)))) (.br ((decide ((0:Int)≤i))&&(decide (i < (Int.ofNat (List.length t))))) (.jmp (.l14 (List.getD t (Int.toNat i) (dflt Za)).1 (List.getD t (Int.toNat i) (dflt Za)).2.1 (List.getD t (Int.toNat i) (dflt Za)).2.2.1 (List.getD t (Int.toNat i) (dflt Za)).2.2.2.1.1 (List.getD t (Int.toNat i) (dflt Za)).2.2.2.1.2.1 (List.getD t (Int.toNat i) (dflt Za)).2.2.2.1.2.2.1 (List.getD t (Int.toNat i) (dflt Za)).2.2.2.1.2.2.2 (List.getD t (Int.toNat i) (dflt Za)).2.2.2.2.1.1 (List.getD t (Int.toNat i) (dflt Za)).2.2.2.2.1.2.1 (List.getD t (Int.toNat i) (dflt Za)).2.2.2.2.1.2.2.1 (List.getD t (Int.toNat i) (dflt Za)).2.2.2.2.1.2.2.2 (List.getD t (Int.toNat i) (dflt Za)).2.2.2.2.2.1 (List.getD t (Int.toNat i) (dflt Za)).2.2.2.2.2.2 (0:Int) seen i)) (.no)) (.br ((Int.ofNat (List.length t))==(0:Int)) (.leaf (9:Int)) (.br ((decide ((0:Int)≤(IntKind.i64.wrap ((Int.ofNat (List.length t)) - (1:Int)))))&&(decide ((IntKind.i64.wrap ((Int.ofNat (List.length t)) - (1:Int))) < (Int.ofNat (List.length t))))) (.br ((List.getD t (Int.toNat (IntKind.i64.wrap ((Int.ofNat (List.length t)) - (1:Int)))) (dflt Za)).1 !=(10:Int)) (.br ((List.getD t (Int.toNat (IntKind.i64.wrap ((Int.ofNat (List.length t)) - (1:Int)))) (dflt Za)).1 !=(14:Int)) (.leaf (9:Int)) (.jmp (.l44 (0:Int)))) (.jmp (.l44 (0:Int)))) (.no))) |.l14 x x1 x2 x3 x4 x5 x6 x7 x8 x9 x10 x11 x12 k seen i=>.br (decide (k < (Int.ofNat (List.length x12)))) (.br ((decide ((0:Int)≤k))&&(decide (k < (Int.ofNat (List.length x12))))) (.br (Zb6 (List.getD x12 (Int.toNat k) (dflt .str))) (.br (! (Zdr (List.getD x12 (Int.toNat k) (dflt .str)))) (.leaf (3:Int)) (.br ((decide ((0:Int)≤k))&&(decide (k < (Int.ofNat (List.length x12))))) (.br (Zam seen (List.getD x12 (Int.toNat k) (dflt .str))) (.br (decide ((Z0 seen (List.getD x12 (Int.toNat k) (dflt .str)))≥(0:Int))) (.leaf (6:Int)) (.br ((decide ((0:Int)≤k))&&(decide (k < (Int.ofNat (List.length x12))))) (.br (Nat.ble (((List.length seen)+1)*16) limit) (.jmp (.l14 x x1 x2 x3 x4 x5 x6 x7 x8 x9 x10 x11 x12 (IntKind.i64.wrap (k+(1:Int))) (seen++[(List.getD x12 (Int.toNat k) (dflt .str))]) i)) (.no)) (.no))) (.no)) (.no))) (.no)) (.no)) (.br (ZB (x,(x1,(x2,((x3,(x4,(x5,x6))),((x7,(x8,(x9,x10))),(x11,x12))))))) (.br ((ZC (x,(x1,(x2,((x3,(x4,(x5,x6))),((x7,(x8,(x9,x10))),(x11,x12))))))) !=(0:Int)) (.leaf (ZC (x,(x1,(x2,((x3,(x4,(x5,x6))),((x7,(x8,(x9,x10))),(x11,x12)))))))) (.br (Zd5 p (x3,(x4,(x5,x6)))) (.br ((Zb5 p (x3,(x4,(x5,x6)))) !=(0:Int)) (.leaf (Zb5 p (x3,(x4,(x5,x6))))) (.br (Zd5 p (x7,(x8,(x9,x10)))) (.br ((Zb5 p (x7,(x8,(x9,x10)))) !=(0:Int)) (.leaf (Zb5 p (x7,(x8,(x9,x10))))) (.jmp (.l7 (IntKind.i64.wrap (i+(1:Int))) seen))) (.no))) (.no))) (.no)) |.l44 i=>.br (decide (i < (Int.ofNat (List.length t)))) (.br ((decide ((0:Int)≤i))&&(decide (i < (Int.ofNat (List.length t))))) (.br (ZaG (List.getD t (Int.toNat i) (dflt Za)).1) (.br ((decide ((0:Int)≤i))&&(decide (i < (Int.ofNat (List.length t))))) (.br (ZeJ t (List.getD t (Int.toNat i) (dflt Za)).2.2.2.2.2.1) (.br (decide ((Zc3 t (List.getD t (Int.toNat i) (dflt Za)).2.2.2.2.2.1) < (0:Int))) (.leaf (7:Int)) (.jmp (.l44 (IntKind.i64.wrap (i+(1:Int)))))) (.no)) (.no)) (.jmp (.l44 (IntKind.i64.wrap (i+(1:Int)))))) (.no)) (.leaf (0:Int))
def Zoo (p:El Zc) (t:List (El Za)):JT Zig (Int):=.br (ZmB t) (.br (decide ((ZjF t) > (4096:Int))) (.leaf (10:Int)) (.jmp (.l7 (0:Int) []))) (.no)
def Zkp:Int→AV:=fun (r:Int)=>.d (.int .i64) r
def ZdP (p:El Zc) (t:List (El Za)):Zig→Nat×St |.l7 i seen=>(7,⟨mkTm 122 [(2,.pt 3 0 0),(3,.pt 4 0 0),(5,.own 6 0 none),(6,.d (.int .i64) i)],[(3,0,.box 27 [.d (.sl Zx) p.1,.d (.sl (.sl Za)) p.2] none),(4,0,.box 33 [.d (.sl Za) t] none),(6,0,.row 9 .str seen false)]⟩) |.l14 x x1 x2 x3 x4 x5 x6 x7 x8 x9 x10 x11 x12 k seen i=>(14,⟨mkTm 122 [(2,.pt 3 0 0),(3,.pt 4 0 0),(5,.own 6 0 none),(6,.d (.int .i64) i),(7,.pt 8 0 0),(8,.d (.int .i64) k)],[(3,0,.box 27 [.d (.sl Zx) p.1,.d (.sl (.sl Za)) p.2] none),(4,0,.box 33 [.d (.sl Za) t] none),(6,0,.row 9 .str seen false),(8,0,.box 53 [.d (.int .i64) x,.d .bool x1,.d (.int .i64) x2,.d (.int .i64) x3,.d (.int .i64) x4,.d (.int .i64) x5,.d (.int .i64) x6,.d (.int .i64) x7,.d (.int .i64) x8,.d (.int .i64) x9,.d (.int .i64) x10,.d .str x11,.d (.sl .str) x12] none)]⟩) |.l44 i=>(44,⟨mkTm 122 [(3,.pt 4 0 0),(13,.d (.int .i64) i)],[(4,0,.box 33 [.d (.sl Za) t] none)]⟩)
theorem ZDr (p:El Zc) (t:List (El Za)) (L:Lt):entryA Go.Proofs.Tryz.prog (clOf ZqM) Zn3 Go.Proofs.Tryz.f38 ZkY L (toForms Zee (p,t,()))=(Zoo p t).run (fun v=>some (Zkp v,tps (toForms Zee (p,t,())))) fun j=>L (ZdP p t j).1 (ZdP p t j).2:=by kernel_rfl
theorem ZCj (p:El Zc) (t:List (El Za)):∀(L:Lt) (j:Zig),procOf (procsF Go.Proofs.Tryz.prog (clOf ZqM) Zn3 Go.Proofs.Tryz.f38 ZkY (toForms Zee (p,t,()))) (ZdP p t j).1 L (ZdP p t j).2=(Zbn p t j).run (fun v=>some (Zkp v,tps (toForms Zee (p,t,())))) fun j=>L (ZdP p t j).1 (ZdP p t j).2 | L,.l7 i seen=>by kernel_rfl | L,.l14 x x1 x2 x3 x4 x5 x6 x7 x8 x9 x10 x11 x12 k seen i=>by kernel_rfl | L,.l44 i=>by kernel_rfl
end
end Go.Ev
end

section
open Go
namespace Go.Ev
def Ziu (p:El Zc) (t:List (El Za)):Int:=threadC p t
def ZkM (p:El Zc) (t:List (El Za)):Bool:=smallThread t
theorem ZLB (len:Nat) (size:Int→Int) (k s n:Int) (h:(k=3∨k=4)→0≤s):
 (bif (! (decide (k=3) || decide (k=4))) then
  (0:Int)
 else bif (decide (s≥(Int.ofNat len))) then
  (7:Int)
 else bif (k==(3:Int)) then
  bif ((decide ((0:Int)≤s))&&(decide (s < (Int.ofNat len)))) then
   bif (decide (n≥size s)) then
    (8:Int)
   else (0:Int)
  else (0:Int)
 else (0:Int))=placeN len size k s n∧
 (bif (! (decide (k=3) || decide (k=4))) then
  true
 else bif (decide (s≥(Int.ofNat len))) then
  true
 else bif (k==(3:Int)) then
  bif ((decide ((0:Int)≤s))&&(decide (s < (Int.ofNat len)))) then
   bif (decide (n≥size s)) then
    true
   else true
  else false
 else true)=true:=by
 unfold placeN
 by_cases h3:k=3
 ·have h0:=h (.inl h3)
  subst h3
  by_cases hl:(len:Int)≤s
  ·simp[hl]
  have h2:s < (len:Int):=by omega
  have h1:¬s < 0:=by omega
  by_cases hn:size s≤n
  ·simp[hl,hn,h0,h1,h2]
  ·simp[hl,hn,h0,h1,h2]
 by_cases h4:k=4
 ·have h0:=h (.inr h4)
  subst h4
  have h1:¬s < 0:=by omega
  by_cases hl:(len:Int)≤s
  ·simp[hl]
  simp[hl,h1]
 simp[h3,h4]
theorem ZD0 (p:El Zc) (o:El Zh) (h:∀k s:Int,o.1=k→o.2.2.1=s→(k=3∨k=4)→0≤s):Zb5 p o=placeC p o∧Zd5 p o=true:=by
 have:=ZLB p.1.length (fun s=>(List.getD p.1 s.toNat (dflt Zx)).2.1) o.1 o.2.2.1 o.2.2.2 (h _ _ rfl rfl)
 unfold Zb5 Zd5
 rw[ZeM]
 exact this
theorem ZDY {k r s n:Int} (h:ZE (k,r,s,n)=true) (hk:k=3∨k=4):0≤s:=by
 unfold ZE at h
 rcases hk with rfl | rfl
 ·by_cases hs:0≤s
  ·exact hs
  ·simp[hs] at h
 ·by_cases hs:0≤s
  ·exact hs
  ·simp[hs] at h
theorem ZQs {i:El Za} (hr:Zz i=0):(∀k s:Int,i.2.2.2.1.1=k→i.2.2.2.1.2.2.1=s→(k=3∨k=4)→0≤s)∧∀k s:Int,i.2.2.2.2.1.1=k→i.2.2.2.2.1.2.2.1=s→(k=3∨k=4)→0≤s:=by
 obtain ⟨h1,h14,hrow⟩:=ZxW hr
 rcases nine i.1 with ⟨h9,_⟩ | ⟨h9,_⟩
 ·obtain ⟨a,b⟩:=ZND hrow h1 h9
  exact ⟨fun k s hk hs h=>hs▸ZDY (k:=i.2.2.2.1.1) (r:=i.2.2.2.1.2.1) (s:=i.2.2.2.1.2.2.1) (n:=i.2.2.2.1.2.2.2) a (hk▸h),fun k s hk hs h=>hs▸ZDY (k:=i.2.2.2.2.1.1) (r:=i.2.2.2.2.1.2.1) (s:=i.2.2.2.2.1.2.2.1) (n:=i.2.2.2.2.1.2.2.2) b (hk▸h)⟩
 ·obtain ⟨a,b⟩:=ZL7 hrow h9
  refine ⟨fun k s hk hs h=>?_,fun k s hk hs h=>?_⟩
  ·have:k=0:=hk▸a
   omega
  ·have:k=0:=hk▸b
   omega
theorem ZEI (p:El Zc) (t:List (El Za)) (hk:ZkM p t=true):Goes (Zbn p t) (Zoo p t) (Ziu p t):=by
 have hS:=smallT hk
 have hn:=hS.len
 have hkf:∀l,ZeJ t l=true:=fun l=>by
  unfold ZeJ
  simp only[Bool.and_eq_true,decide_eq_true_eq,List.all_eq_true]
  exact ⟨hn,fun i hi=>Nat.lt_of_le_of_lt (ZxI hi) hS.labs⟩
 have jmps:∀k,k≤t.length→Goes (Zbn p t) (.jmp (.l44 (k:Int))) (jumpC (labels t) (t.drop k)):=by
  refine down ?_ fun k hk ih=>?_
  ·rw[Zi]
   simp only[Zbn,Ze,Zv (Nat.lt_irrefl _),ZR,List.drop_length]
   simp[jumpC]
  ·rw[Zi]
   simp only[Zbn,Ze,ZO hk,nng,Bool.and_self,if_true,Int.toNat_natCast,ZH hk,Zo (k:=k) (by omega),hkf,ZPC]
   have hfi:decide (Zc3 t t[k].2.2.2.2.2.1 < 0)=! (labels t).contains t[k].2.2.2.2.2.1:=ZJL
   rw[hfi,ZN hk]
   unfold jumpC
   by_cases h1:((t[k].1==(10:Int)) || (t[k].1==(11:Int)))=true
   ·rw[if_pos h1,if_pos h1]
    by_cases h2:(labels t).contains t[k].2.2.2.2.2.1=true
    ·rw[if_pos h2,if_neg (by rw[h2];decide)];exact ih
    ·rw[if_neg h2,if_pos (by rw[Bool.eq_false_iff.2 h2];rfl)];exact .leaf
   ·rw[if_neg h1,if_neg h1];exact ih
 have main:∀k,k≤t.length→Goes (Zbn p t) (.jmp (.l7 (k:Int) (labels (t.take k)))) (scanI p (fun seen=>endC t (jumpC seen t)) (labels (t.take k)) (t.drop k)):=by
  refine down ?_ fun k hk ih=>?_
  ·have hj:=jmps 0 (Nat.zero_le _)
   rw[List.drop_zero] at hj
   rw[Zi,List.drop_length,List.take_length]
   unfold scanI
   simp only[Zbn,Ze,Zv (Nat.lt_irrefl _)]
   rw[if_neg (by decide)]
   by_cases h0:t.length=0
   ·have:t=[]:=List.eq_nil_of_length_eq_zero h0
    rw[this];simp[ZR,endC]
   ·have hp:0 < t.length:=by omega
    rw[if_neg (by simp;exact fun e=>h0 (by rw[e];rfl)),ZLH hp]
    rw[show Int.ofNat t.length=(t.length:Int) from rfl,ZJ1 (k:=t.length) (by omega) hp]
    have hb:(decide (0≤((t.length - 1:Nat):Int))&&decide (((t.length - 1:Nat):Int) < (t.length:Int)))=true:=by simp;omega
    simp only[hb,if_true,Int.toNat_natCast,ZH (show t.length - 1 < t.length by omega)]
    unfold bne
    cases h10:(t[t.length - 1].1==(10:Int)) with
    | true=>simpa using hj
    | false=>
     cases h14:(t[t.length - 1].1==(14:Int)) with
     | true=>simpa using hj
     | false=>simp[ZR]
  ·have hmem:t[k]∈t:=List.getElem_mem hk
   have hto:=hS.to _ hmem
   have hlab:=hS.lab _ hmem
   have hlen:=Nat.lt_of_le_of_lt (ZxI hmem) hS.labs
   have htk:labels (t.take (k+1))=labels (t.take k)++t[k].2.2.2.2.2.2:=by
    unfold labels
    rw[List.take_add_one,List.getElem?_eq_getElem hk,List.flatMap_append]
    simp
   have hall:labels t=labels (t.take (k+1))++labels (t.drop (k+1)):=by
    unfold labels
    rw[←List.flatMap_append,List.take_append_drop]
   have hlt:(labels (t.take (k+1))).length < 1099511627776:=by
    have:=hS.labs
    rw[hall,List.length_append] at this
    omega
   rw[Zi]
   simp only[Zbn,Ze,ZO hk,nng,Bool.and_self,if_true,Int.toNat_natCast,ZH hk]
   rw[ZN hk]
   unfold scanI
   rw[htk] at ih hlt
   generalize t[k]=i at hto hlab hlen htk ih hlt
   obtain ⟨op,lock,cond,⟨ak,ar,ay,an⟩,⟨bk,br,bz,bn⟩,to,ls⟩:=i
   dsimp only at hto hlab hlen htk ih hlt ⊢
   have inner:∀j,j≤ls.length→Goes (Zbn p t) (.jmp (.l14 op lock cond ak ar ay an bk br bz bn to ls (j:Int) (labels (t.take k)++ls.take j) (k:Int))) (scanL (labels (t.take k)++ls.take j) (fun seen=>if insC p (op,(lock,(cond,((ak,(ar,(ay,an))),((bk,(br,(bz,bn))),(to,ls))))))≠0 then insC p (op,(lock,(cond,((ak,(ar,(ay,an))),((bk,(br,(bz,bn))),(to,ls)))))) else scanI p (fun seen=>endC t (jumpC seen t)) seen (t.drop (k+1))) (ls.drop j)):=by
    refine down ?_ fun j hj ihj=>?_
    ·rw[Zi,List.drop_length,List.take_length]
     unfold scanL
     have hkr:ZB (op,(lock,(cond,((ak,(ar,(ay,an))),((bk,(br,(bz,bn))),(to,ls))))))=true:=hto
     simp only[Zbn,Ze,Zv (Nat.lt_irrefl _),hkr,if_true,Zo (k:=k) (by omega)]
     rw[if_neg (by decide)]
     unfold insC ZC
     dsimp only
     by_cases hr:Zz (op,(lock,(cond,((ak,(ar,(ay,an))),((bk,(br,(bz,bn))),(to,ls))))))=0
     ·obtain ⟨oa,ob⟩:=ZQs hr
      obtain ⟨a1,a2⟩:=ZD0 p (ak,(ar,(ay,an))) oa
      obtain ⟨b1,b2⟩:=ZD0 p (bk,(br,(bz,bn))) ob
      by_cases ha:placeC p (ak,(ar,(ay,an)))=0
      ·by_cases hb:placeC p (bk,(br,(bz,bn)))=0
       ·simp[hr,ha,hb,a1,a2,b1,b2];exact ih
       ·simp[hr,ha,hb,a1,a2,b1,b2,ZR]
      ·simp[hr,ha,a1,a2,ZR]
     ·simp[hr,ZR]
    ·have hl:=hlab ls[j] (List.getElem_mem hj)
     have hkn:Zb6 ls[j]=true:=hl
     have hsl:(labels (t.take k)++ls.take j).length < 1099511627776:=by
      rw[List.length_append] at hlt ⊢
      rw[List.length_take]
      omega
     have hki:Zam (labels (t.take k)++ls.take j) ls[j]=true:=decide_eq_true (by omega)
     have hap:Nat.ble (((labels (t.take k)++ls.take j).length+1)*16) limit=true:=by apply Nat.ble_eq_true_of_le;unfold limit;omega
     have htj:labels (t.take k)++ls.take (j+1)=(labels (t.take k)++ls.take j)++[ls[j]]:=by
      rw[List.take_add_one,List.getElem?_eq_getElem hj,List.append_assoc];rfl
     rw[htj] at ihj
     rw[Zi]
     simp only[Zbn,Ze,ZO hj,nng,Bool.and_self,if_true,Int.toNat_natCast,ZH hj,Zo (k:=j) (by omega),hkn,hki,hap,ZCK]
     rw[ZN hj]
     unfold scanL
     by_cases h1:nameRight ls[j]=false
     ·rw[if_pos h1,if_pos (by show (! nameRight ls[j])=true;rw[h1];rfl)];exact .leaf
     ·rw[if_neg h1,if_neg (by show ¬(! nameRight ls[j])=true;simpa using h1)]
      by_cases h2:(labels (t.take k)++ls.take j).contains ls[j]=true
      ·rw[if_pos h2,if_pos h2];exact .leaf
      ·rw[if_neg h2,if_neg h2];exact ihj
   have:=inner 0 (Nat.zero_le _)
   rw[List.drop_zero,List.take_zero,List.append_nil] at this
   exact this
 unfold Zoo Ziu
 have hkc:ZmB t=true:=decide_eq_true hn
 simp only[Ze,hkc,if_true]
 unfold threadC ZjF
 by_cases h:4096 < countM t
 ·rw[if_pos (by simp;omega),if_pos h];exact .leaf
 ·rw[if_neg (by simp;omega),if_neg h]
  exact main 0 (Nat.zero_le _)
end Go.Ev
end

section
open Go Go.Ev
namespace Go.Ev
noncomputable section
noncomputable def Zv1:Run:=entG Zee Zkp (fun a=>ZkM a.1 a.2.1) (fun a=>Ziu a.1 a.2.1)
theorem ZCv:EntOK Go.Proofs.Tryz.prog 38 Zv1:=ZI (tb:=Zn3) (c:=ZkY) ZDi (by kernel_rfl) (by kernel_rfl) (by kernel_rfl) (fun a=>by kernel_rfl) fun ⟨p,t,_⟩ hk=>Zl (c:=ZkY) (K:=fun v=>(Zkp v,tps (toForms Zee (p,t,())))) (S:=ZdP p t) (by kernel_rfl) (ZDr p t) (ZCj p t) (ZEI p t hk)
end
end Go.Ev
end

section
open Go Go.Ev
namespace Go.Ev
noncomputable section
def ZfT:Sig:=[(true,Zc)]
noncomputable def ZrJ:Tbl:=[(37,ZmP),(38,Zv1)]
theorem ZG4:∀p∈ZrJ,EntOK Go.Proofs.Tryz.prog p.1 p.2:=Zg ZqL (Zg ZCv (Zt))
noncomputable def Znu:Code:=Go.Proofs.Tryz.f15.body.getD .skip
def Zra:Tb:=[(6,⟨[1,3],[]⟩),(16,⟨[1,3,4,5],[]⟩),(26,⟨[1,6],[]⟩)]
inductive Zjw where | l6 (i:Int) | l16 (x:ByteArray) (x1:Int) (x2:List Int) (i:Int) (k:Int) | l26 (i:Int)
def ZbJ (p:El Zc):Zjw→JT Zjw (Int) |.l6 i=>.br (decide (i < (Int.ofNat (List.length p.1)))) (.br ((decide ((0:Int)≤i))&&(decide (i < (Int.ofNat (List.length p.1))))) (.br (Zb6 (List.getD p.1 (Int.toNat i) (dflt Zx)).1) (.br (! (Zdr (List.getD p.1 (Int.toNat i) (dflt Zx)).1)) (.leaf (3:Int)) (.jmp (.l16 (List.getD p.1 (Int.toNat i) (dflt Zx)).1 (List.getD p.1 (Int.toNat i) (dflt Zx)).2.1 (List.getD p.1 (Int.toNat i) (dflt Zx)).2.2 i (0:Int)))) (.no)) (.no)) (.jmp (.l26 (0:Int))) |.l16 x x1 x2 i k=>.br (decide (k < i)) (.br ((decide ((0:Int)≤k))&&(decide (k < (Int.ofNat (List.length p.1))))) (.br (eqB (List.getD p.1 (Int.toNat k) (dflt Zx)).1 x) (.leaf (6:Int)) (.jmp (.l16 x x1 x2 i (IntKind.i64.wrap (k+(1:Int)))))) (.no)) (.br (decide (x1 < (1:Int))) (.leaf (5:Int)) (.br (decide (x1 > (64:Int))) (.leaf (5:Int)) (.br (decide ((Int.ofNat (List.length x2)) > x1)) (.leaf (5:Int)) (.jmp (.l6 (IntKind.i64.wrap (i+(1:Int)))))))) |.l26 i=>.br (decide (i < (Int.ofNat (List.length p.2)))) (.br ((decide ((0:Int)≤i))&&(decide (i < (Int.ofNat (List.length p.2))))) (.br (ZkM p (List.getD p.2 (Int.toNat i) (dflt (.sl Za)))) (.br ((Ziu p (List.getD p.2 (Int.toNat i) (dflt (.sl Za)))) !=(0:Int)) (.leaf (Ziu p (List.getD p.2 (Int.toNat i) (dflt (.sl Za))))) (.jmp (.l26 (IntKind.i64.wrap (i+(1:Int)))))) (.no)) (.no)) (.leaf (0:Int))
def Zqw (p:El Zc):JT Zjw (Int):=.br (decide ((Int.ofNat (List.length p.1)) > (64:Int))) (.leaf (10:Int)) (.br (decide ((Int.ofNat (List.length p.2)) > (64:Int))) (.leaf (10:Int)) (.jmp (.l6 (0:Int))))
def Zmp:Int→AV:=fun (r:Int)=>.d (.int .i64) r
def ZeE (p:El Zc):Zjw→Nat×St |.l6 i=>(6,⟨mkTm 81 [(1,.pt 2 0 0),(3,.d (.int .i64) i)],[(2,0,.box 27 [.d (.sl Zx) p.1,.d (.sl (.sl Za)) p.2] none)]⟩) |.l16 x x1 x2 i k=>(16,⟨mkTm 81 [(1,.pt 2 0 0),(3,.d (.int .i64) i),(4,.pt 5 0 0),(5,.d (.int .i64) k)],[(2,0,.box 27 [.d (.sl Zx) p.1,.d (.sl (.sl Za)) p.2] none),(5,0,.box 47 [.d .str x,.d (.int .i64) x1,.d (.sl (.int .i64)) x2] none)]⟩) |.l26 i=>(26,⟨mkTm 81 [(1,.pt 2 0 0),(6,.d (.int .i64) i)],[(2,0,.box 27 [.d (.sl Zx) p.1,.d (.sl (.sl Za)) p.2] none)]⟩)
theorem ZGg (p:El Zc) (L:Lt):entryA Go.Proofs.Tryz.prog (clOf ZrJ) Zra Go.Proofs.Tryz.f15 Znu L (toForms ZfT (p,()))=(Zqw p).run (fun v=>some (Zmp v,tps (toForms ZfT (p,())))) fun j=>L (ZeE p j).1 (ZeE p j).2:=by kernel_rfl
theorem ZEX (p:El Zc):∀(L:Lt) (j:Zjw),procOf (procsF Go.Proofs.Tryz.prog (clOf ZrJ) Zra Go.Proofs.Tryz.f15 Znu (toForms ZfT (p,()))) (ZeE p j).1 L (ZeE p j).2=(ZbJ p j).run (fun v=>some (Zmp v,tps (toForms ZfT (p,())))) fun j=>L (ZeE p j).1 (ZeE p j).2 | L,.l6 i=>by kernel_rfl | L,.l16 x x1 x2 i k=>by kernel_rfl | L,.l26 i=>by kernel_rfl
end
end Go.Ev
end

section
open Go
namespace Go.Ev
def Zcz (p:El Zc):Int:=checkC p
def Zb4 (p:El Zc):Bool:=smallProg p
theorem ZII (p:El Zc) (hk:Zb4 p=true):Goes (ZbJ p) (Zqw p) (Zcz p):=by
 have hth:∀t∈p.2,smallThread t=true:=by
  unfold Zb4 smallProg at hk
  simp only[Bool.and_eq_true,List.all_eq_true] at hk
  exact hk.2
 have hsy:∀s∈p.1,smallText s.1=true:=by
  unfold Zb4 smallProg at hk
  simp only[Bool.and_eq_true,List.all_eq_true] at hk
  exact hk.1
 obtain ⟨sy,th⟩:=p
 dsimp only at hth hsy
 have ths:th.length≤64→∀k,k≤th.length→Goes (ZbJ (sy,th)) (.jmp (.l26 (k:Int))) (thsC (sy,th) (th.drop k)):=by
  intro hn
  refine down ?_ fun k hk ih=>?_
  ·rw[Zi]
   simp only[ZbJ,Ze,Zv (Nat.lt_irrefl _),ZR,List.drop_length]
   simp[thsC]
  ·have hkt:ZkM (sy,th) th[k]=true:=hth _ (List.getElem_mem hk)
   rw[Zi]
   simp only[ZbJ,Ze,ZO hk,nng,Bool.and_self,if_true,Int.toNat_natCast,ZH hk,Zo (k:=k) (by omega),hkt]
   rw[ZN hk]
   unfold thsC
   show (if (threadC (sy,th) th[k] !=0)=true then _ else _)
   by_cases h:threadC (sy,th) th[k]=0
   ·rw[if_neg (by simp[h]),if_neg (by simp[h])];exact ih
   ·rw[if_pos (by simp[h]),if_pos h];exact .leaf
 have main:sy.length≤64→th.length≤64→∀k,k≤sy.length→Goes (ZbJ (sy,th)) (.jmp (.l6 (k:Int))) (symsC (thsC (sy,th) th) ((sy.take k).map fun s=>s.1) (sy.drop k)):=by
  intro hn hm
  refine down ?_ fun k hk ih=>?_
  ·rw[Zi,List.drop_length]
   unfold symsC
   simp only[ZbJ,Ze,Zv (Nat.lt_irrefl _)]
   rw[if_neg (by decide)]
   simpa using ths hm 0 (Nat.zero_le _)
  ·have hkn:Zb6 sy[k].1=true:=hsy _ (List.getElem_mem hk)
   have htk:(sy.take (k+1)).map (fun s=>s.1)=(sy.take k).map (fun s=>s.1)++[sy[k].1]:=by
    rw[List.take_add_one,List.getElem?_eq_getElem hk,List.map_append];rfl
   rw[htk] at ih
   rw[Zi]
   simp only[ZbJ,Ze,ZO hk,nng,Bool.and_self,if_true,Int.toNat_natCast,ZH hk,hkn]
   rw[ZN hk]
   unfold symsC
   generalize sy[k]=s at ih hkn
   obtain ⟨nm,size,init⟩:=s
   dsimp only at ih hkn ⊢
   change Int at size
   by_cases h1:nameRight nm=false
   ·rw[if_pos h1,if_pos (by show (! nameRight nm)=true;rw[h1];rfl)];exact .leaf
   rw[if_neg h1,if_neg (by show ¬(! nameRight nm)=true;simpa using h1)]
   have inner:∀j,j≤k→Goes (ZbJ (sy,th)) (.jmp (.l16 nm size init (k:Int) (j:Int))) (if (((sy.take k).drop j).map (fun s=>s.1)).contains nm=true then 6 else if size < (1:Int)∨(64:Int) < size∨size < (List.length init:Int) then 5 else symsC (thsC (sy,th) th) ((sy.take k).map (fun s=>s.1)++[nm]) (sy.drop (k+1))):=by
    refine down ?_ fun j hj ihj=>?_
    ·rw[Zi]
     have:(sy.take k).drop k=[]:=List.drop_eq_nil_of_le (by rw[List.length_take];omega)
     rw[this]
     simp only[ZbJ,Ze,Zo (k:=k) (by omega)]
     rw[if_neg (by simp)]
     simp only[List.map_nil,List.contains_nil,Bool.false_eq_true,if_false]
     by_cases h3:size < 1
     ·rw[if_pos (decide_eq_true h3),if_pos (.inl h3)];exact .leaf
     rw[if_neg (by simpa using h3)]
     by_cases h4:64 < size
     ·rw[if_pos (decide_eq_true h4),if_pos (.inr (.inl h4))];exact .leaf
     rw[if_neg (by simpa using h4)]
     by_cases h5:size < (List.length init:Int)
     ·rw[if_pos (show decide (Int.ofNat (List.length init) > size)=true from decide_eq_true h5),if_pos (.inr (.inr h5))];exact .leaf
     rw[if_neg (show ¬decide (Int.ofNat (List.length init) > size)=true by simpa using h5),if_neg (by rintro (h | h | h) <;> contradiction)]
     exact ih
    ·have hjs:j < sy.length:=by omega
     have hjt:j < (sy.take k).length:=by rw[List.length_take];omega
     rw[Zi,ZN hjt,List.map_cons,List.contains_cons,List.getElem_take]
     simp only[ZbJ,Ze,ZO hjs,nng,Bool.and_self,if_true,Int.toNat_natCast,ZH hjs,Zo (k:=j) (by omega),Zro]
     rw[if_pos (by simp;omega)]
     by_cases h2:sy[j].1=nm
     ·rw[if_pos h2,if_pos (by rw[h2];simp)];exact .leaf
     ·rw[if_neg h2,beq_false_of_ne (Ne.symm h2),Bool.false_or];exact ihj
   simpa using inner 0 (Nat.zero_le _)
 unfold Zqw Zcz checkC
 simp only[Ze]
 by_cases h:64 < sy.length
 ·rw[if_pos (by simp;omega),if_pos (.inl h)];exact .leaf
 rw[if_neg (by simp;omega)]
 by_cases h2:64 < th.length
 ·rw[if_pos (by simp;omega),if_pos (.inr h2)];exact .leaf
 rw[if_neg (by simp;omega),if_neg (by rintro (h | h) <;> contradiction)]
 exact main (by omega) (by omega) 0 (Nat.zero_le _)
end Go.Ev
end

section
open Go Go.Ev
namespace Go.Ev
noncomputable section
noncomputable def ZsS:Run:=entG ZfT Zmp (fun a=>Zb4 a.1) (fun a=>Zcz a.1)
theorem Zxp:EntOK Go.Proofs.Tryz.prog 15 ZsS:=ZI (tb:=Zra) (c:=Znu) ZG4 (by kernel_rfl) (by kernel_rfl) (by kernel_rfl) (fun a=>by kernel_rfl) fun ⟨p,_⟩ hk=>Zl (c:=Znu) (K:=fun v=>(Zmp v,tps (toForms ZfT (p,())))) (S:=ZeE p) (by kernel_rfl) (ZGg p) (ZEX p) (ZII p hk)
end
end Go.Ev
end

section
open Go Go.Ev
namespace Go.Ev
noncomputable section
def ZfU:Sig:=[(true,Za)]
noncomputable def Zsp:Tbl:=[(69,Zcg),(101,ZhV)]
theorem ZEL:∀p∈Zsp,EntOK Go.Proofs.Tryz.prog p.1 p.2:=Zg Zcu (Zg Zjo (Zt))
noncomputable def ZmJ:Code:=Go.Proofs.Tryz.f91.body.getD .skip
def ZqD:Tb:=[]
def Zyt (i:El Za):Empty→JT Empty ((El Zh)×Bool):=fun j=>nomatch j
def Zw3 (i:El Za):JT Empty ((El Zh)×Bool):=.br (ZB i) (.br ((ZC i) !=(0:Int)) (.leaf (((0:Int),((0:Int),((0:Int),(0:Int)))),false)) (.br (decide (i.1 > (9:Int))) (.leaf (((0:Int),((0:Int),((0:Int),(0:Int)))),false)) (.br (ZF i.2.2.2.2.1) (.leaf (i.2.2.2.2.1,true)) (.br (ZF i.2.2.2.1) (.br (i.1 !=(1:Int)) (.leaf (i.2.2.2.1,true)) (.leaf (((0:Int),((0:Int),((0:Int),(0:Int)))),false))) (.leaf (((0:Int),((0:Int),((0:Int),(0:Int)))),false)))))) (.no)
def Zds (i:El Za):(El Zh)×Bool:=bif (ZB i) then bif ((ZC i) !=(0:Int)) then (((0:Int),((0:Int),((0:Int),(0:Int)))),false) else bif (decide (i.1 > (9:Int))) then (((0:Int),((0:Int),((0:Int),(0:Int)))),false) else bif (ZF i.2.2.2.2.1) then (i.2.2.2.2.1,true) else bif (ZF i.2.2.2.1) then bif (i.1 !=(1:Int)) then (i.2.2.2.1,true) else (((0:Int),((0:Int),((0:Int),(0:Int)))),false) else (((0:Int),((0:Int),((0:Int),(0:Int)))),false) else (((0:Int),((0:Int),((0:Int),(0:Int)))),false)
def ZjM (i:El Za):Bool:=bif (ZB i) then bif ((ZC i) !=(0:Int)) then true else bif (decide (i.1 > (9:Int))) then true else bif (ZF i.2.2.2.2.1) then true else bif (ZF i.2.2.2.1) then bif (i.1 !=(1:Int)) then true else true else true else false
theorem ZJv (i:El Za) (hk:ZjM i=true):Goes (Zyt i) (Zw3 i) (Zds i):=Goes.brk hk (fun hk=>Goes.brk hk (fun hk=>Goes.leaf) (fun hk=>Goes.brk hk (fun hk=>Goes.leaf) (fun hk=>Goes.brk hk (fun hk=>Goes.leaf) (fun hk=>Goes.brk hk (fun hk=>Goes.brk hk (fun hk=>Goes.leaf) (fun hk=>Goes.leaf)) (fun hk=>Goes.leaf))))) (fun hk=>Goes.nok hk)
def Znn:(El Zh)×Bool→AV:=fun (r:(El Zh)×Bool)=>.tu [.ag [.d (.int .i64) r.1.1,.d (.int .i64) r.1.2.1,.d (.int .i64) r.1.2.2.1,.d (.int .i64) r.1.2.2.2],.d .bool r.2]
def Zfa (i:El Za):Empty→Nat×St:=fun j=>nomatch j
theorem ZGh (i:El Za) (L:Lt):entryA Go.Proofs.Tryz.prog (clOf Zsp) ZqD Go.Proofs.Tryz.f91 ZmJ L (toForms ZfU (i,()))=(Zw3 i).run (fun v=>some (Znn v,tps (toForms ZfU (i,())))) fun j=>L (Zfa i j).1 (Zfa i j).2:=by kernel_rfl
theorem ZEW (i:El Za):∀(L:Lt) (j:Empty),procOf (procsF Go.Proofs.Tryz.prog (clOf Zsp) ZqD Go.Proofs.Tryz.f91 ZmJ (toForms ZfU (i,()))) (Zfa i j).1 L (Zfa i j).2=(Zyt i j).run (fun v=>some (Znn v,tps (toForms ZfU (i,())))) fun j=>L (Zfa i j).1 (Zfa i j).2:=fun L j=>nomatch j
noncomputable def Zze:Run:=entG ZfU Znn (fun a=>ZjM a.1) (fun a=>Zds a.1)
theorem ZEq:EntOK Go.Proofs.Tryz.prog 91 Zze:=ZI (tb:=ZqD) (c:=ZmJ) ZEL (by kernel_rfl) (by kernel_rfl) (by kernel_rfl) (fun a=>by kernel_rfl) fun ⟨i,_⟩ hk=>Zl (c:=ZmJ) (K:=fun v=>(Znn v,tps (toForms ZfU (i,())))) (S:=Zfa i) (by kernel_rfl) (ZGh i) (ZEW i) (ZJv i hk)
end
end Go.Ev
end

section
open Go Go.Ev
namespace Go.Ev
noncomputable section
def Zep:Sig:=[(true,Za)]
noncomputable def Zq4:Tbl:=[(69,Zcg),(101,ZhV)]
theorem ZDh:∀p∈Zq4,EntOK Go.Proofs.Tryz.prog p.1 p.2:=Zg Zcu (Zg Zjo (Zt))
noncomputable def ZkZ:Code:=Go.Proofs.Tryz.f92.body.getD .skip
def Zob:Tb:=[]
def Zw6 (i:El Za):Empty→JT Empty ((El Zh)×Bool):=fun j=>nomatch j
def Zun (i:El Za):JT Empty ((El Zh)×Bool):=.br (ZB i) (.br ((ZC i) !=(0:Int)) (.leaf (((0:Int),((0:Int),((0:Int),(0:Int)))),false)) (.br (decide (i.1 > (9:Int))) (.leaf (((0:Int),((0:Int),((0:Int),(0:Int)))),false)) (.br (i.1==(7:Int)) (.leaf (((0:Int),((0:Int),((0:Int),(0:Int)))),false)) (.br (! (ZF i.2.2.2.1)) (.leaf (((0:Int),((0:Int),((0:Int),(0:Int)))),false)) (.leaf (i.2.2.2.1,true)))))) (.no)
def ZcD (i:El Za):(El Zh)×Bool:=bif (ZB i) then bif ((ZC i) !=(0:Int)) then (((0:Int),((0:Int),((0:Int),(0:Int)))),false) else bif (decide (i.1 > (9:Int))) then (((0:Int),((0:Int),((0:Int),(0:Int)))),false) else bif (i.1==(7:Int)) then (((0:Int),((0:Int),((0:Int),(0:Int)))),false) else bif (! (ZF i.2.2.2.1)) then (((0:Int),((0:Int),((0:Int),(0:Int)))),false) else (i.2.2.2.1,true) else (((0:Int),((0:Int),((0:Int),(0:Int)))),false)
def ZhN (i:El Za):Bool:=bif (ZB i) then bif ((ZC i) !=(0:Int)) then true else bif (decide (i.1 > (9:Int))) then true else bif (i.1==(7:Int)) then true else bif (! (ZF i.2.2.2.1)) then true else true else false
theorem ZE3 (i:El Za) (hk:ZhN i=true):Goes (Zw6 i) (Zun i) (ZcD i):=Goes.brk hk (fun hk=>Goes.brk hk (fun hk=>Goes.leaf) (fun hk=>Goes.brk hk (fun hk=>Goes.leaf) (fun hk=>Goes.brk hk (fun hk=>Goes.leaf) (fun hk=>Goes.brk hk (fun hk=>Goes.leaf) (fun hk=>Goes.leaf))))) (fun hk=>Goes.nok hk)
def Zkr:(El Zh)×Bool→AV:=fun (r:(El Zh)×Bool)=>.tu [.ag [.d (.int .i64) r.1.1,.d (.int .i64) r.1.2.1,.d (.int .i64) r.1.2.2.1,.d (.int .i64) r.1.2.2.2],.d .bool r.2]
def ZdI (i:El Za):Empty→Nat×St:=fun j=>nomatch j
theorem ZDs (i:El Za) (L:Lt):entryA Go.Proofs.Tryz.prog (clOf Zq4) Zob Go.Proofs.Tryz.f92 ZkZ L (toForms Zep (i,()))=(Zun i).run (fun v=>some (Zkr v,tps (toForms Zep (i,())))) fun j=>L (ZdI i j).1 (ZdI i j).2:=by kernel_rfl
theorem ZC5 (i:El Za):∀(L:Lt) (j:Empty),procOf (procsF Go.Proofs.Tryz.prog (clOf Zq4) Zob Go.Proofs.Tryz.f92 ZkZ (toForms Zep (i,()))) (ZdI i j).1 L (ZdI i j).2=(Zw6 i j).run (fun v=>some (Zkr v,tps (toForms Zep (i,())))) fun j=>L (ZdI i j).1 (ZdI i j).2:=fun L j=>nomatch j
noncomputable def Zwh:Run:=entG Zep Zkr (fun a=>ZhN a.1) (fun a=>ZcD a.1)
theorem ZCo:EntOK Go.Proofs.Tryz.prog 92 Zwh:=ZI (tb:=Zob) (c:=ZkZ) ZDh (by kernel_rfl) (by kernel_rfl) (by kernel_rfl) (fun a=>by kernel_rfl) fun ⟨i,_⟩ hk=>Zl (c:=ZkZ) (K:=fun v=>(Zkr v,tps (toForms Zep (i,())))) (S:=ZdI i) (by kernel_rfl) (ZDs i) (ZC5 i) (ZE3 i hk)
end
end Go.Ev
end

section
open Go Go.Ev
namespace Go.Ev
noncomputable section
def Zen:Sig:=[(true,Za)]
noncomputable def ZpF:Tbl:=[(69,Zcg)]
theorem ZC6:∀p∈ZpF,EntOK Go.Proofs.Tryz.prog p.1 p.2:=Zg Zcu (Zt)
noncomputable def Zke:Code:=Go.Proofs.Tryz.f93.body.getD .skip
def ZnQ:Tb:=[]
def ZvY (i:El Za):Empty→JT Empty (Bool):=fun j=>nomatch j
def Zul (i:El Za):JT Empty (Bool):=.br (ZB i) (.br ((ZC i)==(0:Int)) (.br (i.1==(8:Int)) (.leaf true) (.leaf i.2.1)) (.leaf false)) (.no)
def ZaB (i:El Za):Bool:=bif (ZB i) then bif ((ZC i)==(0:Int)) then bif (i.1==(8:Int)) then true else i.2.1 else false else false
def Zaj (i:El Za):Bool:=bif (ZB i) then bif ((ZC i)==(0:Int)) then bif (i.1==(8:Int)) then true else true else true else false
theorem ZGW (i:El Za) (hk:Zaj i=true):Goes (ZvY i) (Zul i) (ZaB i):=Goes.brk hk (fun hk=>Goes.brk hk (fun hk=>Goes.brk hk (fun hk=>Goes.leaf) (fun hk=>Goes.leaf)) (fun hk=>Goes.leaf)) (fun hk=>Goes.nok hk)
def Zkx:Bool→AV:=fun (r:Bool)=>.d .bool r
def Zdu (i:El Za):Empty→Nat×St:=fun j=>nomatch j
theorem ZCs (i:El Za) (L:Lt):entryA Go.Proofs.Tryz.prog (clOf ZpF) ZnQ Go.Proofs.Tryz.f93 Zke L (toForms Zen (i,()))=(Zul i).run (fun v=>some (Zkx v,tps (toForms Zen (i,())))) fun j=>L (Zdu i j).1 (Zdu i j).2:=by kernel_rfl
theorem ZCh (i:El Za):∀(L:Lt) (j:Empty),procOf (procsF Go.Proofs.Tryz.prog (clOf ZpF) ZnQ Go.Proofs.Tryz.f93 Zke (toForms Zen (i,()))) (Zdu i j).1 L (Zdu i j).2=(ZvY i j).run (fun v=>some (Zkx v,tps (toForms Zen (i,())))) fun j=>L (Zdu i j).1 (Zdu i j).2:=fun L j=>nomatch j
noncomputable def ZpK:Run:=entG Zen Zkx (fun a=>Zaj a.1) (fun a=>ZaB a.1)
theorem Zuy:EntOK Go.Proofs.Tryz.prog 93 ZpK:=ZI (tb:=ZnQ) (c:=Zke) ZC6 (by kernel_rfl) (by kernel_rfl) (by kernel_rfl) (fun a=>by kernel_rfl) fun ⟨i,_⟩ hk=>Zl (c:=Zke) (K:=fun v=>(Zkx v,tps (toForms Zen (i,())))) (S:=Zdu i) (by kernel_rfl) (ZCs i) (ZCh i) (ZGW i hk)
end
end Go.Ev
end

section
open Go Go.Ev
namespace Go.Ev
noncomputable section
def Zcx:Sig:=[(true,Zc)]
noncomputable def Zl6:Tbl:=[(15,ZsS),(91,Zze),(92,Zwh),(93,ZpK)]
theorem ZzK:∀p∈Zl6,EntOK Go.Proofs.Tryz.prog p.1 p.2:=Zg Zxp (Zg ZEq (Zg ZCo (Zg Zuy (Zt))))
noncomputable def ZhW:Code:=Go.Proofs.Tryz.f57.body.getD .skip
def Zj9:Tb:=[(7,⟨[1,3,4],[(4,164)]⟩),(12,⟨[1,3,4,5],[(4,164)]⟩),(hintK,⟨[],[(1,164)]⟩)]
inductive ZeI where | l7 (t:Int) (out:List (El Zb)) | l12 (i:Int) (out:List (El Zb)) (t:Int)
def Zbl (p:El Zc):ZeI→JT ZeI (List (El Zb)) |.l7 t out=>.br (decide (t < (Int.ofNat (List.length p.2)))) (.jmp (.l12 (0:Int) out t)) (.leaf out) |.l12 i out t=>.br ((decide ((0:Int)≤t))&&(decide (t < (Int.ofNat (List.length p.2))))) (.br (decide (i < (Int.ofNat (List.length (List.getD p.2 (Int.toNat t) (dflt (.sl Za))))))) (.br ((decide ((0:Int)≤t))&&(decide (t < (Int.ofNat (List.length p.2))))) (.br ((decide ((0:Int)≤i))&&(decide (i < (Int.ofNat (List.length (List.getD p.2 (Int.toNat t) (dflt (.sl Za)))))))) (.br (ZjM (List.getD (List.getD p.2 (Int.toNat t) (dflt (.sl Za))) (Int.toNat i) (dflt Za))) (.br (ZhN (List.getD (List.getD p.2 (Int.toNat t) (dflt (.sl Za))) (Int.toNat i) (dflt Za))) (.br (Zds (List.getD (List.getD p.2 (Int.toNat t) (dflt (.sl Za))) (Int.toNat i) (dflt Za))).2 (.br (Zaj (List.getD (List.getD p.2 (Int.toNat t) (dflt (.sl Za))) (Int.toNat i) (dflt Za))) (.br (Nat.ble (((List.length out)+1)*40) limit) (.br (ZcD (List.getD (List.getD p.2 (Int.toNat t) (dflt (.sl Za))) (Int.toNat i) (dflt Za))).2 (.br (Zaj (List.getD (List.getD p.2 (Int.toNat t) (dflt (.sl Za))) (Int.toNat i) (dflt Za))) (.br (Nat.ble (((List.length (out++[(t,(i,((0:Int),((Zds (List.getD (List.getD p.2 (Int.toNat t) (dflt (.sl Za))) (Int.toNat i) (dflt Za))).1.2.2.1,(false,(ZaB (List.getD (List.getD p.2 (Int.toNat t) (dflt (.sl Za))) (Int.toNat i) (dflt Za))))))))]))+1)*40) limit) (.jmp (.l12 (IntKind.i64.wrap (i+(1:Int))) ((out++[(t,(i,((0:Int),((Zds (List.getD (List.getD p.2 (Int.toNat t) (dflt (.sl Za))) (Int.toNat i) (dflt Za))).1.2.2.1,(false,(ZaB (List.getD (List.getD p.2 (Int.toNat t) (dflt (.sl Za))) (Int.toNat i) (dflt Za))))))))])++[(t,(i,((1:Int),((ZcD (List.getD (List.getD p.2 (Int.toNat t) (dflt (.sl Za))) (Int.toNat i) (dflt Za))).1.2.2.1,(true,(ZaB (List.getD (List.getD p.2 (Int.toNat t) (dflt (.sl Za))) (Int.toNat i) (dflt Za))))))))]) t)) (.no)) (.no)) (.jmp (.l12 (IntKind.i64.wrap (i+(1:Int))) (out++[(t,(i,((0:Int),((Zds (List.getD (List.getD p.2 (Int.toNat t) (dflt (.sl Za))) (Int.toNat i) (dflt Za))).1.2.2.1,(false,(ZaB (List.getD (List.getD p.2 (Int.toNat t) (dflt (.sl Za))) (Int.toNat i) (dflt Za))))))))]) t))) (.no)) (.no)) (.br (ZcD (List.getD (List.getD p.2 (Int.toNat t) (dflt (.sl Za))) (Int.toNat i) (dflt Za))).2 (.br (Zaj (List.getD (List.getD p.2 (Int.toNat t) (dflt (.sl Za))) (Int.toNat i) (dflt Za))) (.br (Nat.ble (((List.length out)+1)*40) limit) (.jmp (.l12 (IntKind.i64.wrap (i+(1:Int))) (out++[(t,(i,((0:Int),((ZcD (List.getD (List.getD p.2 (Int.toNat t) (dflt (.sl Za))) (Int.toNat i) (dflt Za))).1.2.2.1,(true,(ZaB (List.getD (List.getD p.2 (Int.toNat t) (dflt (.sl Za))) (Int.toNat i) (dflt Za))))))))]) t)) (.no)) (.no)) (.jmp (.l12 (IntKind.i64.wrap (i+(1:Int))) out t)))) (.no)) (.no)) (.no)) (.no)) (.jmp (.l7 (IntKind.i64.wrap (t+(1:Int))) out))) (.no)
def ZjV (p:El Zc):JT ZeI (List (El Zb)):=.br (Zb4 p) (.br ((Zcz p) !=(0:Int)) (.leaf []) (.jmp (.l7 (0:Int) []))) (.no)
def Ziq:List (El Zb)→AV:=fun (r:List (El Zb))=>.rw 90 Zb r
def Zcj (p:El Zc):ZeI→Nat×St |.l7 t out=>(7,⟨mkTm 76 [(1,.pt 2 0 0),(3,.own 4 0 none),(4,.d (.int .i64) t)],[(2,0,.box 27 [.d (.sl Zx) p.1,.d (.sl (.sl Za)) p.2] none),(4,0,.row 90 Zb out false)]⟩) |.l12 i out t=>(12,⟨mkTm 76 [(1,.pt 2 0 0),(3,.own 4 0 none),(4,.d (.int .i64) t),(5,.d (.int .i64) i)],[(2,0,.box 27 [.d (.sl Zx) p.1,.d (.sl (.sl Za)) p.2] none),(4,0,.row 90 Zb out false)]⟩)
theorem Zzn (p:El Zc) (L:Lt):entryA Go.Proofs.Tryz.prog (clOf Zl6) Zj9 Go.Proofs.Tryz.f57 ZhW L (toForms Zcx (p,()))=(ZjV p).run (fun v=>some (Ziq v,tps (toForms Zcx (p,())))) fun j=>L (Zcj p j).1 (Zcj p j).2:=by kernel_rfl
theorem ZzJ (p:El Zc):∀(L:Lt) (j:ZeI),procOf (procsF Go.Proofs.Tryz.prog (clOf Zl6) Zj9 Go.Proofs.Tryz.f57 ZhW (toForms Zcx (p,()))) (Zcj p j).1 L (Zcj p j).2=(Zbl p j).run (fun v=>some (Ziq v,tps (toForms Zcx (p,())))) fun j=>L (Zcj p j).1 (Zcj p j).2 | L,.l7 t out=>by kernel_rfl | L,.l12 i out t=>by kernel_rfl
end
end Go.Ev
end

section
namespace Go.Ev
open Go
theorem ZQ5 {i:El Za} (h:smallText i.2.2.2.2.2.1=true):ZjM i=true∧ZhN i=true∧Zaj i=true:=by
 have h0:ZB i=true:=h
 unfold ZjM ZhN Zaj
 simp only[h0,cond_true,Bool.cond_self,and_self]
theorem ZPz {i:El Za} (h:smallText i.2.2.2.2.2.1=true):Zds i=ZaI i:=by
 have h0:ZU i=true:=h
 have h1:ZB i=true:=h
 unfold Zds ZaI ZC
 simp only[h0,h1,cond_true]
 by_cases hr:Zz i=0
 ·simp only[hr,bne_self_eq_false,cond_false]
  rcases nine i.1 with ⟨h9,e⟩ | ⟨h9,e⟩
  ·obtain ⟨a,b⟩:=ZOg hr h9
   rw[a,b,e,cond_false]
  ·obtain ⟨a,b⟩:=ZMz hr h9
   rw[a,b,e]
   simp only[cond_true,cond_false]
 ·have e:(Zz i !=0)=true:=by simp[hr]
  simp only[e,cond_true]
theorem ZOM {i:El Za} (h:smallText i.2.2.2.2.2.1=true):ZcD i=ZaF i:=by
 have h0:ZU i=true:=h
 have h1:ZB i=true:=h
 unfold ZcD ZaF ZC
 simp only[h0,h1,cond_true]
 by_cases hr:Zz i=0
 ·simp only[hr,bne_self_eq_false,cond_false]
  rcases nine i.1 with ⟨h9,e⟩ | ⟨h9,e⟩
  ·obtain ⟨a,b⟩:=ZOg hr h9
   rw[a,e,cond_false]
   cases ZF i.2.2.2.1 <;> simp only[Bool.not_true,Bool.not_false,cond_true,cond_false,Bool.cond_self]
  ·obtain ⟨a,b⟩:=ZMz hr h9
   rw[a,e]
   simp only[cond_true,Bool.not_false]
 ·have e:(Zz i !=0)=true:=by simp[hr]
  simp only[e,cond_true]
theorem ZOO {i:El Za} (h:smallText i.2.2.2.2.2.1=true):ZaB i=Zak i:=by
 have h0:ZU i=true:=h
 have h1:ZB i=true:=h
 unfold ZaB Zak ZC
 simp only[h0,h1]
end Go.Ev
end

section
open Go
namespace Go.Ev
def Zs (p:El Zc):List (El Zb):=ofC p
def Zik (p:El Zc):Bool:=smallAll p
theorem ZAd (p:El Zc) (hk:Zik p=true):Goes (Zbl p) (ZjV p) (Zs p):=by
 have hA:=smallA hk
 obtain ⟨sy,th⟩:=p
 have hkc:Zb4 (sy,th)=true:=hA.prog
 have hlen:th.length < 1073741824:=hA.len
 have htot:total th < 1073741824:=hA.tot
 have main:∀k,k≤th.length→∀out:List (El Zb),out.length+2*total (th.drop k) < 4294967296→Goes (Zbl (sy,th)) (.jmp (.l7 (k:Int) out)) (out++accP k (th.drop k)):=by
  refine down ?_ fun k hk ih=>?_
  ·intro out ho
   rw[Zi]
   simp only[Zbl,Ze,Zv (Nat.lt_irrefl _),ZR,List.drop_length]
   simp[accP]
  ·intro out ho
   rw[ZDN hk] at ho
   have hS:=smallT (hA.thr _ (List.getElem_mem hk))
   rw[Zi]
   simp only[Zbl,Ze,ZO hk,if_true]
   rw[ZN hk]
   unfold accP
   obtain ⟨x,hx0⟩:∃x,th[k]=x:=⟨_,rfl⟩
   rw[hx0] at ho hS ⊢
   have inner:∀j,j≤List.length x→∀out:List (El Zb),out.length+2*(List.length x - j)+2*total (th.drop (k+1)) < 4294967296→Goes (Zbl (sy,th)) (.jmp (.l12 (j:Int) out (k:Int))) (out++(accT k j (List.drop j x)++accP (k+1) (th.drop (k+1)))):=by
    refine down ?_ fun j hj ihj=>?_
    ·intro out ho
     rw[Zi]
     simp only[Zbl,Ze,ZO hk,nng,Bool.and_self,if_true,Int.toNat_natCast,ZH hk,hx0,Zv (Nat.lt_irrefl _),Zo (k:=k) (by omega),List.drop_length]
     have:=ih out (by omega)
     simpa[accT] using this
    ·intro out ho
     have hto:=hS.to _ (List.getElem_mem hj)
     obtain ⟨a1,a2,a4⟩:=ZQ5 hto
     have hx:List.length x < 1099511627776:=hS.len
     rw[Zi]
     have b1:Nat.ble ((out.length+1)*40) limit=true:=ble40 (by omega)
     have b2:∀y:El Zb,Nat.ble (((out++[y]).length+1)*40) limit=true:=fun y=>ble40 (by rw[List.length_append];simp;omega)
     simp only[Zbl,Ze,ZO hk,ZH hk,hx0,ZO hj,nng,Bool.and_self,if_true,Int.toNat_natCast,ZH hj,Zo (k:=j) (by omega),a1,a2,a4,b1,b2,ZPz hto,ZOM hto,ZOO hto]
     rw[ZN hj]
     unfold accT accI
     have hs:∀y:List (El Zb),y.length≤2→Goes (Zbl (sy,th)) (.jmp (.l12 ((j+1:Nat):Int) (out++y) (k:Int))) (out++((y++accT k (j+1) (List.drop (j+1) x))++accP (k+1) (th.drop (k+1)))):=fun y hy=>by
      have:=ihj (out++y) (by rw[List.length_append];omega)
      rw[List.append_assoc] at this
      rw[List.append_assoc]
      exact this
     by_cases hr:(ZaI x[j]).2=true <;> by_cases hw:(ZaF x[j]).2=true
     ·simp only[hr,hw,if_true]
      rw[List.append_assoc out]
      exact hs _ (by simp)
     ·simp only[hr,hw,if_true,if_false]
      exact hs _ (by simp)
     ·simp only[hr,hw,if_true,if_false]
      exact hs _ (by simp)
     ·simp only[hr,hw,if_false]
      have:=hs [] (by simp)
      rw[List.append_nil] at this
      exact this
   exact inner 0 (Nat.zero_le _) out (by omega)
 unfold ZjV Zs ofC
 simp only[Ze,hkc,if_true,Zcz]
 by_cases h:checkC (sy,th)=0
 ·rw[if_neg (by simp[h]),if_pos h]
  have:=main 0 (Nat.zero_le _) [] (by simp;omega)
  simpa using this
 ·rw[if_pos (by simp[h]),if_neg h]
  exact .leaf
end Go.Ev
end

section
open Go Go.Ev
namespace Go.Ev
noncomputable section
noncomputable def ZsY:Run:=entG Zcx Ziq (fun a=>Zik a.1) (fun a=>Zs a.1)
theorem Zzw:EntOK Go.Proofs.Tryz.prog 57 ZsY:=ZI (tb:=Zj9) (c:=ZhW) ZzK (by kernel_rfl) (by kernel_rfl) (by kernel_rfl) (fun a=>by kernel_rfl) fun ⟨p,_⟩ hk=>Zl (c:=ZhW) (K:=fun v=>(Ziq v,tps (toForms Zcx (p,())))) (S:=Zcj p) (by kernel_rfl) (Zzn p) (ZzJ p) (ZAd p hk)
end
end Go.Ev
end

section
open Go Go.Ev
namespace Go.Ev
noncomputable section
def ZfI:Sig:=[(true,Za)]
noncomputable def ZrV:Tbl:=[(69,Zcg),(71,Zm7)]
theorem ZFx:∀p∈ZrV,EntOK Go.Proofs.Tryz.prog p.1 p.2:=Zg Zcu (Zg Zo2 (Zt))
noncomputable def Zmu:Code:=Go.Proofs.Tryz.f117.body.getD .skip
def Zo9:Tb:=[]
def Zzc (i:El Za):Empty→JT Empty (Bool×Bool):=fun j=>nomatch j
def Zv6 (i:El Za):JT Empty (Bool×Bool):=.br (ZB i) (.br ((ZC i) !=(0:Int)) (.leaf (false,false)) (.br (i.1 !=(10:Int)) (.leaf ((i.1 !=(14:Int)),(ZaG i.1))) (.leaf (false,(ZaG i.1))))) (.no)
def Zdp (i:El Za):Bool×Bool:=bif (ZB i) then bif ((ZC i) !=(0:Int)) then (false,false) else bif (i.1 !=(10:Int)) then ((i.1 !=(14:Int)),(ZaG i.1)) else (false,(ZaG i.1)) else (false,false)
def Zjy (i:El Za):Bool:=bif (ZB i) then bif ((ZC i) !=(0:Int)) then true else bif (i.1 !=(10:Int)) then true else true else false
theorem ZHS (i:El Za) (hk:Zjy i=true):Goes (Zzc i) (Zv6 i) (Zdp i):=Goes.brk hk (fun hk=>Goes.brk hk (fun hk=>Goes.leaf) (fun hk=>Goes.brk hk (fun hk=>Goes.leaf) (fun hk=>Goes.leaf))) (fun hk=>Goes.nok hk)
def Znm:Bool×Bool→AV:=fun (r:Bool×Bool)=>.tu [.d .bool r.1,.d .bool r.2]
def ZeV (i:El Za):Empty→Nat×St:=fun j=>nomatch j
theorem ZFl (i:El Za) (L:Lt):entryA Go.Proofs.Tryz.prog (clOf ZrV) Zo9 Go.Proofs.Tryz.f117 Zmu L (toForms ZfI (i,()))=(Zv6 i).run (fun v=>some (Znm v,tps (toForms ZfI (i,())))) fun j=>L (ZeV i j).1 (ZeV i j).2:=by kernel_rfl
theorem ZGK (i:El Za):∀(L:Lt) (j:Empty),procOf (procsF Go.Proofs.Tryz.prog (clOf ZrV) Zo9 Go.Proofs.Tryz.f117 Zmu (toForms ZfI (i,()))) (ZeV i j).1 L (ZeV i j).2=(Zzc i j).run (fun v=>some (Znm v,tps (toForms ZfI (i,())))) fun j=>L (ZeV i j).1 (ZeV i j).2:=fun L j=>nomatch j
noncomputable def Zyz:Run:=entG ZfI Znm (fun a=>Zjy a.1) (fun a=>Zdp a.1)
theorem ZGx:EntOK Go.Proofs.Tryz.prog 117 Zyz:=ZI (tb:=Zo9) (c:=Zmu) ZFx (by kernel_rfl) (by kernel_rfl) (by kernel_rfl) (fun a=>by kernel_rfl) fun ⟨i,_⟩ hk=>Zl (c:=Zmu) (K:=fun v=>(Znm v,tps (toForms ZfI (i,())))) (S:=ZeV i) (by kernel_rfl) (ZFl i) (ZGK i) (ZHS i hk)
end
end Go.Ev
end

section
open Go Go.Ev
namespace Go.Ev
noncomputable section
def Zhz:Sig:=[(true,(.sl Za)),(false,(.int .i64))]
noncomputable def Zu5:Tbl:=[(117,Zyz),(72,Zvt)]
theorem ZJW:∀p∈Zu5,EntOK Go.Proofs.Tryz.prog p.1 p.2:=Zg ZGx (Zg Zye (Zt))
noncomputable def Zqh:Code:=Go.Proofs.Tryz.f94.body.getD .skip
def Zs3:Tb:=[(6,⟨[1,2,5,7],[]⟩)]
inductive Zk9 where | l6 (jumps:Bool) (is:List Bool)
def ZqI (t:List (El Za)) (i:Int):Zk9→JT Zk9 (List Bool) |.l6 jumps is=>.br jumps (.br ((decide ((0:Int)≤i))&&(decide (i < (Int.ofNat (List.length t))))) (.br (ZeJ t (List.getD t (Int.toNat i) (dflt Za)).2.2.2.2.2.1) (.br (decide ((Zc3 t (List.getD t (Int.toNat i) (dflt Za)).2.2.2.2.2.1)≥(0:Int))) (.br ((decide ((0:Int)≤(Zc3 t (List.getD t (Int.toNat i) (dflt Za)).2.2.2.2.2.1)))&&(decide ((Zc3 t (List.getD t (Int.toNat i) (dflt Za)).2.2.2.2.2.1) < (Int.ofNat (List.length is))))) (.leaf (List.set is (Int.toNat (Zc3 t (List.getD t (Int.toNat i) (dflt Za)).2.2.2.2.2.1)) true)) (.no)) (.leaf is)) (.no)) (.no)) (.leaf is)
def Zsn (t:List (El Za)) (i:Int):JT Zk9 (List Bool):=.br ((((Int.ofNat (List.length t))==(Int.ofNat (List.length t)))&&(decide ((0:Int)≤(Int.ofNat (List.length t)))))&&(decide (((Int.ofNat (List.length t))*(1:Int))≤(limit:Int)))) (.br (decide (i < (0:Int))) (.leaf (List.replicate (List.length t) false)) (.br (decide (i≥(Int.ofNat (List.length t)))) (.leaf (List.replicate (List.length t) false)) (.br ((decide ((0:Int)≤i))&&(decide (i < (Int.ofNat (List.length t))))) (.br (Zjy (List.getD t (Int.toNat i) (dflt Za))) (.br (Zdp (List.getD t (Int.toNat i) (dflt Za))).1 (.br (decide ((IntKind.i64.wrap (i+(1:Int))) < (Int.ofNat (List.length t)))) (.br ((decide ((0:Int)≤(IntKind.i64.wrap (i+(1:Int)))))&&(decide ((IntKind.i64.wrap (i+(1:Int))) < (Int.ofNat (List.length (List.replicate (List.length t) false)))))) (.jmp (.l6 (Zdp (List.getD t (Int.toNat i) (dflt Za))).2 (List.set (List.replicate (List.length t) false) (Int.toNat (IntKind.i64.wrap (i+(1:Int)))) true))) (.no)) (.jmp (.l6 (Zdp (List.getD t (Int.toNat i) (dflt Za))).2 (List.replicate (List.length t) false)))) (.jmp (.l6 (Zdp (List.getD t (Int.toNat i) (dflt Za))).2 (List.replicate (List.length t) false)))) (.no)) (.no)))) (.no)
def Zpx:List Bool→AV:=fun (r:List Bool)=>.rw 4 .bool r
def ZgI (t:List (El Za)) (i:Int):Zk9→Nat×St |.l6 jumps is=>(6,⟨mkTm 60 [(1,.d (.int .i64) i),(2,.pt 3 0 0),(5,.own 6 0 none),(7,.d .bool jumps)],[(3,0,.box 33 [.d (.sl Za) t] none),(6,0,.row 4 .bool is false)]⟩)
theorem ZIp (t:List (El Za)) (i:Int) (L:Lt):entryA Go.Proofs.Tryz.prog (clOf Zu5) Zs3 Go.Proofs.Tryz.f94 Zqh L (toForms Zhz (t,i,()))=(Zsn t i).run (fun v=>some (Zpx v,tps (toForms Zhz (t,i,())))) fun j=>L (ZgI t i j).1 (ZgI t i j).2:=by kernel_rfl
theorem ZKa (t:List (El Za)) (i:Int):∀(L:Lt) (j:Zk9),procOf (procsF Go.Proofs.Tryz.prog (clOf Zu5) Zs3 Go.Proofs.Tryz.f94 Zqh (toForms Zhz (t,i,()))) (ZgI t i j).1 L (ZgI t i j).2=(ZqI t i j).run (fun v=>some (Zpx v,tps (toForms Zhz (t,i,())))) fun j=>L (ZgI t i j).1 (ZgI t i j).2 | L,.l6 jumps is=>by kernel_rfl
end
end Go.Ev
end

section
open Go
namespace Go.Ev
theorem ZLv {i:El Za} (h:smallText i.2.2.2.2.2.1=true):Zjy i=true:=by
 have h1:ZB i=true:=h
 unfold Zjy
 simp only[h1,cond_true,Bool.cond_self]
theorem ZN1 {i:El Za} (h:smallText i.2.2.2.2.2.1=true):Zdp i=ZaJ i:=by
 have h0:ZU i=true:=h
 have h1:ZB i=true:=h
 unfold Zdp ZaJ ZC ZaG
 simp only[h0,h1,cond_true]
 cases h10:((show Int from i.1)==10) with
 | true=>simp only[cond_true,bne,h10,Bool.not_true,cond_false]
 | false=>simp only[cond_true,bne,h10,Bool.not_false,cond_false]
end Go.Ev
end

section
open Go
namespace Go.Ev
def rowOf (n:Nat) (M:Nat→Bool):List Bool:=(List.range n).map M
theorem ZK {n:Nat} {M:Nat→Bool} :(rowOf n M).length=n:=by simp[rowOf]
theorem ZoL {n:Nat} {M:Nat→Bool} {i:Nat} (h:i < n):(rowOf n M)[i]? =some (M i):=by simp[rowOf,h]
theorem Zsd {n:Nat} {M:Nat→Bool} {i:Nat} :(rowOf n M).set i true=rowOf n fun j=>M j || (j==i):=by
 apply List.ext_getElem?
 intro j
 rw[List.getElem?_set,ZK]
 by_cases hj:j < n
 ·rw[ZoL hj,ZoL hj]
  by_cases hi:i=j
  ·subst hi;rw[if_pos rfl,if_pos hj];simp
  ·rw[if_neg hi]
   have:(j==i)=false:=by simp;omega
   rw[this,Bool.or_false]
 ·rw[List.getElem?_eq_none (by rw[ZK];omega),List.getElem?_eq_none (by rw[ZK];omega)]
  by_cases hi:i=j
  ·rw[if_pos hi,if_neg (by omega)]
  ·rw[if_neg hi]
theorem Z3 {n:Nat} {M M':Nat→Bool} (h:∀i,i < n→M i=M' i):rowOf n M=rowOf n M':=List.map_congr_left fun i hi=>h i (List.mem_range.1 hi)
theorem ZoH {n:Nat} :List.replicate n false=rowOf n fun _=>false:=by
 apply List.ext_getElem?
 intro j
 by_cases hj:j < n
 ·rw[ZoL hj];simp[hj]
 ·rw[List.getElem?_eq_none (by simp;omega),List.getElem?_eq_none (by rw[ZK];omega)]
def Zbb (t:List (El Za)) (i:Int):List Bool:=rowOf t.length (nextB t i)
def ZcL (t:List (El Za)) (i:Int):Bool:=flowOK t
theorem ZLX (t:List (El Za)) (i:Int) (hk:ZcL t i=true):Goes (ZqI t i) (Zsn t i) (Zbb t i):=by
 have hlen:=ZbC hk
 have hout:∀i,¬(0≤i∧i < (t.length:Int))→List.replicate t.length false=rowOf t.length (nextB t i):=fun i h=>by
  rw[ZoH]
  refine Z3 fun j hj=>?_
  unfold nextB
  rw[decide_eq_false (fun hh=>h ⟨hh.1,hh.2.1⟩),Bool.false_and]
 unfold Zsn Zbb
 rw[Ze,if_pos (by unfold limit;simp;omega),Ze]
 by_cases h0:i < 0
 ·rw[if_pos (decide_eq_true h0),←hout i (fun h=>by omega)];exact .leaf
 rw[if_neg (by simpa using h0),Ze]
 obtain ⟨j,rfl⟩:=Int.eq_ofNat_of_zero_le (show 0≤i by omega)
 by_cases h1:(t.length:Int)≤(j:Int)
 ·rw[if_pos (decide_eq_true (show (j:Int)≥Int.ofNat t.length from h1)),←hout _ (fun h=>by omega)];exact .leaf
 have hj:j < t.length:=by omega
 rw[if_neg (by simp;omega),Ze,if_pos (Zas hj),Ze,Int.toNat_natCast]
 have hmem:t.getD j (dflt Za)∈t:=by rw[ZH hj];exact List.getElem_mem hj
 have hsm:=Zpn hk hmem
 rw[if_pos (ZLv hsm),ZN1 hsm]
 have kf:ZeJ t (t.getD j (dflt Za)).2.2.2.2.2.1=true:=ZBS hk
 have vf:Zc3 t (t.getD j (dflt Za)).2.2.2.2.2.1=findI (t.getD j (dflt Za)).2.2.2.2.2.1 t 0:=rfl
 have hw:IntKind.i64.wrap ((j:Int)+1)=((j+1:Nat):Int):=Zo (by omega)
 have hr:= @ZLk t j
 have l6:∀(M:Nat→Bool),Goes (ZqI t (j:Int)) (.jmp (.l6 (ZaJ (t.getD j (dflt Za))).2 (rowOf t.length M))) (rowOf t.length fun k=>M k || decide (toOf t j=(k:Int))):=by
  intro M
  rw[Zi,ZqI,Ze]
  by_cases hjmp:(ZaJ (t.getD j (dflt Za))).2=true
  ·have hto:toOf t j=findI (t.getD j (dflt Za)).2.2.2.2.2.1 t 0:=by unfold toOf;rw[if_pos hjmp]
   rw[hto] at hr
   rw[if_pos hjmp,Ze,if_pos (Zas hj),Ze,Int.toNat_natCast,if_pos kf,Ze,vf,hto]
   generalize findI (t.getD j (dflt Za)).2.2.2.2.2.1 t 0=to at hr
   by_cases h2:to≥0
   ·obtain ⟨k,rfl⟩:=Int.eq_ofNat_of_zero_le h2
    rw[if_pos (decide_eq_true h2),Ze,if_pos (by rw[ZK];exact Zas (by omega)),Int.toNat_natCast,Zsd]
    rw[show (rowOf t.length fun l=>M l || decide ((k:Int)=(l:Int)))=rowOf t.length fun l=>M l || (l==k) from Z3 fun l _=>by
     congr 1
     rw[Bool.eq_iff_iff];simp;omega]
    exact .leaf
   ·rw[if_neg (by simpa using h2)]
    rw[show (rowOf t.length fun l=>M l || decide (to=(l:Int)))=rowOf t.length M from Z3 fun l _=>by
     rw[decide_eq_false (by omega),Bool.or_false]]
    exact .leaf
  ·have hto:toOf t j= -1:=by unfold toOf;rw[if_neg hjmp]
   rw[if_neg hjmp,hto]
   rw[show (rowOf t.length fun l=>M l || decide ((-1:Int)=(l:Int)))=rowOf t.length M from Z3 fun l _=>by
     rw[decide_eq_false (by omega),Bool.or_false]]
   exact .leaf
 have hB:∀k,k < t.length→nextB t (j:Int) k=((onOf t j&&decide ((k:Int)=(j:Int)+1)) || decide (toOf t j=(k:Int))):=fun k hk=>by
  unfold nextB
  rw[decide_eq_true (by omega),Bool.true_and,Int.toNat_natCast]
 rw[ZoH,Ze]
 by_cases hon:(ZaJ (t.getD j (dflt Za))).1=true
 ·have hon':onOf t j=true:=hon
  rw[if_pos hon,Ze,hw]
  by_cases hin:j+1 < t.length
  ·rw[if_pos (ZO hin),Ze,ZK,if_pos (Zas hin),Int.toNat_natCast,Zsd]
   have:=l6 fun k=>false || (k==j+1)
   rw[show rowOf t.length (nextB t (j:Int))=rowOf t.length fun k=>(false || (k==j+1)) || decide (toOf t j=(k:Int)) from Z3 fun k hk=>by
    rw[hB k hk,hon',Bool.true_and,Bool.false_or]
    congr 1
    rw[Bool.eq_iff_iff];simp;omega]
   exact this
  ·rw[if_neg (by rw[Zv hin];decide)]
   have:=l6 fun _=>false
   rw[show rowOf t.length (nextB t (j:Int))=rowOf t.length fun k=>false || decide (toOf t j=(k:Int)) from Z3 fun k hk=>by
    rw[hB k hk,hon',Bool.true_and,decide_eq_false (show ¬(k:Int)=(j:Int)+1 by omega)]]
   exact this
 ·have hon':onOf t j=false:=Bool.eq_false_iff.2 hon
  rw[if_neg hon]
  have:=l6 fun _=>false
  rw[show rowOf t.length (nextB t (j:Int))=rowOf t.length fun k=>false || decide (toOf t j=(k:Int)) from Z3 fun k hk=>by
   rw[hB k hk,hon',Bool.false_and]]
  exact this
end Go.Ev
end

section
open Go Go.Ev
namespace Go.Ev
noncomputable section
noncomputable def Zvg:Run:=entG Zhz Zpx (fun a=>ZcL a.1 a.2.1) (fun a=>Zbb a.1 a.2.1)
theorem ZyU:EntOK Go.Proofs.Tryz.prog 94 Zvg:=ZI (tb:=Zs3) (c:=Zqh) ZJW (by kernel_rfl) (by kernel_rfl) (by kernel_rfl) (fun a=>by kernel_rfl) fun ⟨t,i,_⟩ hk=>Zl (c:=Zqh) (K:=fun v=>(Zpx v,tps (toForms Zhz (t,i,())))) (S:=ZgI t i) (by kernel_rfl) (ZIp t i) (ZKa t i) (ZLX t i hk)
end
end Go.Ev
end

section
open Go Go.Ev
namespace Go.Ev
noncomputable section
def Zhy:Sig:=[(true,(.sl Za)),(false,(.int .i64))]
noncomputable def ZuN:Tbl:=[(94,Zvg)]
theorem ZJX:∀p∈ZuN,EntOK Go.Proofs.Tryz.prog p.1 p.2:=Zg ZyU (Zt)
noncomputable def Zpm:Code:=Go.Proofs.Tryz.f58.body.getD .skip
def ZsA:Tb:=[(4,⟨[2,5,6],[]⟩),(9,⟨[2,5,6,7],[]⟩),(17,⟨[2,5,6,7,8,9],[]⟩)]
inductive Zl0 where | l4 (moved:Bool) (is:List Bool) | l9 (k:Int) (moved:Bool) (is:List Bool) | l17 (k:Int) (more:List Bool) (moved:Bool) (j_:Int) (is:List Bool)
def ZbU (t:List (El Za)) (i:Int):Zl0→JT Zl0 (List Bool) |.l4 moved is=>.br moved (.jmp (.l9 (0:Int) false is)) (.leaf is) |.l9 k moved is=>.br (decide (k < (Int.ofNat (List.length is)))) (.br ((decide ((0:Int)≤k))&&(decide (k < (Int.ofNat (List.length is))))) (.br (! (List.getD is (Int.toNat k) (dflt .bool))) (.jmp (.l9 (IntKind.i64.wrap (k+(1:Int))) moved is)) (.br (ZcL t k) (.jmp (.l17 k (Zbb t k) moved (0:Int) is)) (.no))) (.no)) (.jmp (.l4 moved is)) |.l17 k more moved j_ is=>.br (decide (j_ < (Int.ofNat (List.length is)))) (.br ((decide ((0:Int)≤j_))&&(decide (j_ < (Int.ofNat (List.length more))))) (.br (List.getD more (Int.toNat j_) (dflt .bool)) (.br ((decide ((0:Int)≤j_))&&(decide (j_ < (Int.ofNat (List.length is))))) (.br (! (List.getD is (Int.toNat j_) (dflt .bool))) (.br ((decide ((0:Int)≤j_))&&(decide (j_ < (Int.ofNat (List.length is))))) (.jmp (.l17 k more true (IntKind.i64.wrap (j_+(1:Int))) (List.set is (Int.toNat j_) true))) (.no)) (.jmp (.l17 k more moved (IntKind.i64.wrap (j_+(1:Int))) is))) (.no)) (.jmp (.l17 k more moved (IntKind.i64.wrap (j_+(1:Int))) is))) (.no)) (.jmp (.l9 (IntKind.i64.wrap (k+(1:Int))) moved is))
def Zsu (t:List (El Za)) (i:Int):JT Zl0 (List Bool):=.br (ZcL t i) (.jmp (.l4 true (Zbb t i))) (.no)
def Zp9:List Bool→AV:=fun (r:List Bool)=>.rw 4 .bool r
def ZgH (t:List (El Za)) (i:Int):Zl0→Nat×St |.l4 moved is=>(4,⟨mkTm 49 [(2,.pt 3 0 0),(5,.own 6 0 none),(6,.d .bool moved)],[(3,0,.box 33 [.d (.sl Za) t] none),(6,0,.row 4 .bool is false)]⟩) |.l9 k moved is=>(9,⟨mkTm 49 [(2,.pt 3 0 0),(5,.own 6 0 none),(6,.d .bool moved),(7,.d (.int .i64) k)],[(3,0,.box 33 [.d (.sl Za) t] none),(6,0,.row 4 .bool is false)]⟩) |.l17 k more moved j_ is=>(17,⟨mkTm 49 [(2,.pt 3 0 0),(5,.own 6 0 none),(6,.d .bool moved),(7,.d (.int .i64) k),(8,.own 9 0 none),(9,.d (.int .i64) j_)],[(3,0,.box 33 [.d (.sl Za) t] none),(6,0,.row 4 .bool is false),(9,0,.row 4 .bool more false)]⟩)
theorem ZIx (t:List (El Za)) (i:Int) (L:Lt):entryA Go.Proofs.Tryz.prog (clOf ZuN) ZsA Go.Proofs.Tryz.f58 Zpm L (toForms Zhy (t,i,()))=(Zsu t i).run (fun v=>some (Zp9 v,tps (toForms Zhy (t,i,())))) fun j=>L (ZgH t i j).1 (ZgH t i j).2:=by kernel_rfl
theorem ZIf (t:List (El Za)) (i:Int):∀(L:Lt) (j:Zl0),procOf (procsF Go.Proofs.Tryz.prog (clOf ZuN) ZsA Go.Proofs.Tryz.f58 Zpm (toForms Zhy (t,i,()))) (ZgH t i j).1 L (ZgH t i j).2=(ZbU t i j).run (fun v=>some (Zp9 v,tps (toForms Zhy (t,i,())))) fun j=>L (ZgH t i j).1 (ZgH t i j).2 | L,.l4 moved is=>by kernel_rfl | L,.l9 k moved is=>by kernel_rfl | L,.l17 k more moved j_ is=>by kernel_rfl
end
end Go.Ev
end

section
open Go
namespace Go.Ev
theorem Zby {n:Nat} {M:Nat→Bool} {i:Nat} (h:i < n):List.getD (rowOf n M) i (dflt .bool)=M i:=by
 simp[List.getD,ZoL h]
theorem ZBd {n:Nat} {M:Nat→Bool} {i:Nat} {b:Bool} :(rowOf n M).set i b=rowOf n fun j=>if j=i then b else M j:=by
 apply List.ext_getElem?
 intro j
 rw[List.getElem?_set,ZK]
 by_cases hj:j < n
 ·rw[ZoL hj,ZoL hj]
  by_cases hi:i=j
  ·subst hi;rw[if_pos rfl,if_pos hj,if_pos rfl]
  ·rw[if_neg hi,if_neg (fun e=>hi e.symm)]
 ·rw[List.getElem?_eq_none (by rw[ZK];omega),List.getElem?_eq_none (by rw[ZK];omega)]
  by_cases hi:i=j
  ·rw[if_pos hi,if_neg (by omega)]
  ·rw[if_neg hi]
end Go.Ev
end

section
open Go
namespace Go.Ev
noncomputable def Zaq (t:List (El Za)) (i:Int):List Bool:=rowOf t.length (fromB t i)
def Zci (t:List (El Za)) (i:Int):Bool:=flowOK t
theorem ZLR (t:List (El Za)) (i:Int) (hk:Zci t i=true):Goes (ZbU t i) (Zsu t i) (Zaq t i):=by
 have hlen:=ZbC hk
 generalize hn:t.length=n at hlen
 let OK:(Nat→Bool)→(Nat→Bool)→Bool→Prop:=fun M0 M moved=>(∀j,nextB t i j=true→M j=true)∧(∀j,M j=true→Come (fun k j=>nextB t (k:Int) j) (nextB t i) j)∧(moved=false→M=M0)∧(moved=true→card n M0 < card n M)
 have hltM:∀ {M0 M moved},OK M0 M moved→∀j,M j=true→j < n:=fun h j hj=>by
  have:=ZFg (n:=t.length) (fun j=>Zex) (fun k j=>Zex) (h.2.1 j hj)
  omega
 have loop:∀m,∀M:Nat→Bool,n - card n M=m→(∀j,nextB t i j=true→M j=true)→(∀j,M j=true→Come (fun k j=>nextB t (k:Int) j) (nextB t i) j)→Goes (ZbU t i) (.jmp (.l4 true (rowOf n M))) (Zaq t i):=by
  intro m
  induction m using Nat.strongRecOn with
  | _ m ih=>
  intro M0 hm hA hC
  have inner:∀k,k < n→∀Z:Prop,(∀M moved,OK M0 M moved→(moved=false→Z∧∀j,nextB t (k:Int) j=true→M0 j=true)→Goes (ZbU t i) (.jmp (.l9 ((k+1:Nat):Int) moved (rowOf n M))) (Zaq t i))→
    ∀j,j≤n→∀M moved,M k=true→OK M0 M moved→(moved=false→Z∧∀x,x < j→nextB t (k:Int) x=true→M0 x=true)→Goes (ZbU t i) (.jmp (.l17 (k:Int) (rowOf n (nextB t (k:Int))) moved (j:Int) (rowOf n M))) (Zaq t i):=by
   intro k hkn Z hz
   refine down ?_ fun j hj ih2=>?_
   ·intro M moved hMk hok hcl
    rw[Zi,ZbU,Ze,ZK,if_neg (by rw[Zv (Nat.lt_irrefl _)];decide),Zo (by omega)]
    exact hz M moved hok fun hm=>⟨(hcl hm).1,fun j hj=>(hcl hm).2 j (by have:=Zex hj;omega) hj⟩
   ·intro M moved hMk hok hcl
    rw[Zi,ZbU,Ze,ZK,if_pos (ZO hj),Ze,ZK,if_pos (Zas hj),Ze,Int.toNat_natCast,Zby hj,Zo (by omega)]
    by_cases hN:nextB t (k:Int) j=true
    ·rw[if_pos hN,Ze,if_pos (Zas hj),Ze,Zby hj]
     cases hMj:M j with
     | true=>
      rw[if_neg (by decide)]
      refine ih2 M moved hMk hok fun hm=>⟨(hcl hm).1,fun x hx hxN=>?_⟩
      by_cases hxj:x=j
      ·subst hxj;rw[←hok.2.2.1 hm];exact hMj
      ·exact (hcl hm).2 x (by omega) hxN
     | false=>
      rw[if_pos (by decide),Ze,if_pos (Zas hj),Zsd]
      have hca:=Zm4 hMj hj
      refine ih2 (fun x=>M x || (x==j)) true (by rw[hMk];rfl) ⟨fun x hx=>(show (M x || (x==j))=true by rw[hok.1 x hx];rfl),fun x hx=>?_,fun h=>(by cases h),fun _=>?_⟩ (fun h=>by cases h)
      ·simp only[Bool.or_eq_true,beq_iff_eq] at hx
       rcases hx with hx | hx
       ·exact hok.2.1 x hx
       ·subst hx;exact .step (hok.2.1 k hMk) hN
      ·cases moved with
       | true=>have:=hok.2.2.2 rfl;omega
       | false=>rw[hok.2.2.1 rfl] at hca;rw[hok.2.2.1 rfl];omega
    ·rw[if_neg hN]
     refine ih2 M moved hMk hok fun hm=>⟨(hcl hm).1,fun x hx hxN=>?_⟩
     by_cases hxj:x=j
     ·subst hxj;exact absurd hxN hN
     ·exact (hcl hm).2 x (by omega) hxN
  have pass:∀k,k≤n→∀M moved,OK M0 M moved→(moved=false→∀k' j,k' < k→M0 k'=true→nextB t (k':Int) j=true→M0 j=true)→Goes (ZbU t i) (.jmp (.l9 (k:Int) moved (rowOf n M))) (Zaq t i):=by
   refine down ?_ fun k hkn ih2=>?_
   ·intro M moved hok hcl
    rw[Zi,ZbU,Ze,ZK,if_neg (by rw[Zv (Nat.lt_irrefl _)];decide)]
    cases moved with
    | true=>
     have h1:=hok.2.2.2 rfl
     have h2:= @ZeU n M
     exact ih (n - card n M) (by omega) M rfl hok.1 hok.2.1
    | false=>
     have e:=hok.2.2.1 rfl
     subst e
     rw[Zi,ZbU,Ze,if_neg (by decide)]
     have hv:rowOf n M=Zaq t i:=by
      unfold Zaq fromB
      rw[hn]
      exact Z3 fun j _=>ZqU hok.1 (fun k j hk hj=>hcl rfl k j (hltM hok k hk) hk hj) hok.2.1 j
     rw[hv];exact .leaf
   ·intro M moved hok hcl
    rw[Zi,ZbU,Ze,ZK,if_pos (ZO hkn),Ze,if_pos (Zas hkn),Ze,Int.toNat_natCast,Zby hkn]
    cases hMk:M k with
    | false=>
     rw[if_pos (by decide),Zo (by omega)]
     refine ih2 M moved hok fun hm k' j hk' hk1 hj=>?_
     by_cases e:k'=k
     ·subst e;rw[←hok.2.2.1 hm,hMk] at hk1;cases hk1
     ·exact hcl hm k' j (by omega) hk1 hj
    | true=>
     have kn:ZcL t (k:Int)=true:=hk
     rw[if_neg (by decide),Ze,if_pos kn]
     have hvn:Zbb t (k:Int)=rowOf n (nextB t (k:Int)):=by unfold Zbb;rw[hn]
     rw[hvn]
     refine inner k hkn (∀k' j,k' < k→M0 k'=true→nextB t (k':Int) j=true→M0 j=true) (fun M' moved' hok' hcl'=>ih2 M' moved' hok' fun hm k' j hk' hk1 hj=>?_) 0 (Nat.zero_le _) M moved hMk hok (fun hm=>⟨hcl hm,fun x hx=>by omega⟩)
     by_cases e:k'=k
     ·subst e;exact (hcl' hm).2 j hj
     ·exact (hcl' hm).1 k' j (by omega) hk1 hj
  rw[Zi,ZbU,Ze,if_pos rfl]
  exact pass 0 (Nat.zero_le _) M0 false ⟨hA,hC,fun _=>rfl,fun h=>by cases h⟩ fun _ k' j h=>by omega
 have kn:ZcL t i=true:=hk
 unfold Zsu
 rw[Ze,if_pos kn]
 have hvn:Zbb t i=rowOf n (nextB t i):=by unfold Zbb;rw[hn]
 rw[hvn]
 exact loop _ (nextB t i) rfl (fun j h=>h) (fun j h=>.start h)
end Go.Ev
end

section
open Go Go.Ev
namespace Go.Ev
noncomputable section
noncomputable def ZuV:Run:=entG Zhy Zp9 (fun a=>Zci a.1 a.2.1) (fun a=>Zaq a.1 a.2.1)
theorem Zyi:EntOK Go.Proofs.Tryz.prog 58 ZuV:=ZI (tb:=ZsA) (c:=Zpm) ZJX (by kernel_rfl) (by kernel_rfl) (by kernel_rfl) (fun a=>by kernel_rfl) fun ⟨t,i,_⟩ hk=>Zl (c:=Zpm) (K:=fun v=>(Zp9 v,tps (toForms Zhy (t,i,())))) (S:=ZgH t i) (by kernel_rfl) (ZIx t i) (ZIf t i) (ZLR t i hk)
end
end Go.Ev
end

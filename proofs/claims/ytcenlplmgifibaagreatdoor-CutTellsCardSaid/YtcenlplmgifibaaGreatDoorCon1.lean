/- Part of the proof of: Which points are chosen, each way, is what the document says, of each thread: for every input the law answers true. -/
import Derived.Shelf.Slices.In.SortNone
import Derived.Shelf.Sort.Plain
import Derived.Test.YtcenlplmgifibaaGreatDoorCon0
set_option maxRecDepth 100000
set_option linter.unusedSectionVars false
set_option linter.unusedVariables false
set_option linter.unusedSimpArgs false
section
open Go
namespace Go.Ev
def Zad (t:List (El Za)) (i:Int):List Int:=listOf t.length (nextB t i)
def ZfM (t:List (El Za)) (i:Int):Bool:=flowOK t
theorem ZC0 {t:List (El Za)} {i:Int} (h:¬(0≤i∧i < (t.length:Int))):listOf t.length (nextB t i)=[]:=by
 unfold listOf
 rw[List.map_eq_nil_iff,List.filter_eq_nil_iff]
 intro j _ hb
 unfold nextB at hb
 rw[Bool.and_eq_true] at hb
 have:=of_decide_eq_true hb.1
 exact h ⟨this.1,this.2.1⟩
theorem ZNC (t:List (El Za)) (i:Int) (hk:ZfM t i=true):Goes (Zhb t i) (Zun t i) (Zad t i):=by
 have hlen:=Zbx hk
 unfold Zun Zad
 rw[Ze]
 by_cases h0:i < 0
 ·rw[if_pos (decide_eq_true h0),ZC0 (fun h=>by omega)];exact .leaf
 rw[if_neg (by simpa using h0),Ze]
 obtain ⟨j,rfl⟩:=Int.eq_ofNat_of_zero_le (show 0≤i by omega)
 by_cases h1:(t.length:Int)≤(j:Int)
 ·rw[if_pos (decide_eq_true (show (j:Int)≥Int.ofNat t.length from h1)),ZC0 (fun h=>by omega)];exact .leaf
 have hj:j < t.length:=by omega
 rw[if_neg (by simp;omega),Ze,if_pos (Zas hj),Ze,Int.toNat_natCast]
 rw[←ZOD hj]
 have hmem:t.getD j (dflt Za)∈t:=by rw[ZG hj];exact List.getElem_mem hj
 have kl:ZdY (t.getD j (dflt Za))=true:=ZPY (ZrN hk hmem)
 have kf:ZkB t (t.getD j (dflt Za)).2.2.2.2.2.1=true:=ZDu hk
 have vf:Za6 t (t.getD j (dflt Za)).2.2.2.2.2.1=findI (t.getD j (dflt Za)).2.2.2.2.2.1 t 0:=rfl
 rw[if_pos kl]
 have hw:IntKind.i64.wrap ((j:Int)+1)=(j:Int)+1:=by rw[wrap_i64 (by omega) (by omega)]
 have l14:∀(to:Int) (out:List Int) (h:Bool),out.length≤3→Goes (Zhb t (j:Int)) (.jmp (.l14 to out h)) (out++if h=true then [to] else []):=by
  intro to out h ho
  rw[Zh,Zhb,Ze]
  cases h with
  | true=>
   rw[if_pos rfl,Ze,if_pos (Nat.ble_eq_true_of_le (by unfold limit;omega)),if_pos rfl];exact .leaf
  | false=>rw[if_neg (by decide),if_neg (by decide),List.append_nil];exact .leaf
 have last:∀(out:List Int) (x:Int),out.length≤1→(decide ((0:Int)≤IntKind.i64.wrap (Int.ofNat (out++[x]).length - 1))&&decide (IntKind.i64.wrap (Int.ofNat (out++[x]).length - 1) < Int.ofNat (out++[x]).length))=true∧List.getD (out++[x]) (IntKind.i64.wrap (Int.ofNat (out++[x]).length - 1)).toNat (dflt (.int .i64))=x:=by
  intro out x ho
  have e:IntKind.i64.wrap (Int.ofNat (out++[x]).length - 1)=(out.length:Int):=by
   rw[List.length_append,List.length_singleton,wrap_i64 (by simp <;> omega) (by simp <;> omega)]
   simp
  rw[e]
  refine ⟨by simp;omega,?_⟩
  rw[Int.toNat_natCast]
  simp[List.getD]
 have l12:∀(to:Int) (h:Bool), -1≤to→(h=true→(j:Int)+1 < t.length)→Goes (Zhb t (j:Int)) (.jmp (.l12 to (if 0≤to∧to≤(j:Int) then [to] else []) h)) (nextL t.length h to (j:Int)):=by
  intro to h hto hh
  rw[Zh,Zhb]
  unfold nextL
  generalize hout:(if 0≤to∧to≤(j:Int) then [to] else [])=out
  have hol:out.length≤1:=by rw[←hout];split <;> simp
  rw[Ze]
  cases h with
  | true=>
   rw[if_pos rfl,Ze,if_pos (Nat.ble_eq_true_of_le (by unfold limit;omega)),Ze,hw]
   have hin:=hh rfl
   obtain ⟨b1,b2⟩:=last out ((j:Int)+1) hol
   rw[if_pos (show true=true∧(j:Int)+1 < (t.length:Int) from ⟨rfl,hin⟩)]
   by_cases hgt:to > (j:Int)
   ·rw[if_pos (decide_eq_true hgt),Ze,if_neg (by simp;omega),Ze,if_pos b1,b2]
    have:=l14 to (out++[(j:Int)+1]) ((j:Int)+1 !=to) (by simp;omega)
    rw[List.append_assoc] at this
    by_cases he:to=(j:Int)+1
    ·rw[if_neg (by simp[he]),List.append_nil] at this
     rw[if_neg (fun h=>h.2 ⟨rfl,hin,he⟩),List.append_nil]
     exact this
    ·rw[if_pos (by simp;omega)] at this
     rw[if_pos ⟨hgt,fun h=>he h.2.2⟩]
     exact this
   ·rw[if_neg (by simpa using hgt),if_neg (fun h=>hgt h.1),List.append_nil]
    have:=l14 to (out++[(j:Int)+1]) false (by simp;omega)
    rwa[if_neg (by decide),List.append_nil] at this
  | false=>
   rw[if_neg (by decide),Ze,if_neg (c:=false=true∧(j:Int)+1 < (t.length:Int)) (fun h=>by cases h.1),List.nil_append]
   by_cases hgt:to > (j:Int)
   ·have he:out=[]:=by rw[←hout,if_neg (fun h=>by omega)]
    subst he
    rw[if_pos (decide_eq_true hgt),Ze,if_pos (show (Int.ofNat ([]:List Int).length==0)=true from rfl),if_pos ⟨hgt,fun h=>by cases h.1⟩]
    have:=l14 to [] true (by simp)
    rwa[if_pos rfl] at this
   ·rw[if_neg (by simpa using hgt),if_neg (fun h=>hgt h.1),List.append_nil]
    have:=l14 to out false (by omega)
    rwa[if_neg (by decide),List.append_nil] at this
 have key:∀(on:Bool) (to:Int),nextL t.length (bif on then decide ((j:Int)+1 < Int.ofNat t.length) else false) to (j:Int)=nextL t.length on to (j:Int):=by
  intro on to
  cases on with
  | false=>rfl
  | true=>
   show nextL t.length (decide ((j:Int)+1 < Int.ofNat t.length)) to (j:Int)=nextL t.length true to (j:Int)
   by_cases hin:(j:Int)+1 < (t.length:Int)
   ·rw[decide_eq_true (show (j:Int)+1 < Int.ofNat t.length from hin)]
   ·rw[decide_eq_false (show ¬(j:Int)+1 < Int.ofNat t.length from hin)]
    unfold nextL
    rw[if_neg (c:=false=true∧(j:Int)+1 < (t.length:Int)) (fun h=>by cases h.1),if_neg (c:=true=true∧(j:Int)+1 < (t.length:Int)) (fun h=>hin h.2)]
    by_cases hgt:to > (j:Int)
    ·rw[if_pos (c:=to > (j:Int)∧¬(false=true∧(j:Int)+1 < (t.length:Int)∧to=(j:Int)+1)) ⟨hgt,fun h=>by cases h.1⟩,if_pos (c:=to > (j:Int)∧¬(true=true∧(j:Int)+1 < (t.length:Int)∧to=(j:Int)+1)) ⟨hgt,fun h=>hin h.2.1⟩]
    ·rw[if_neg (c:=to > (j:Int)∧¬(false=true∧(j:Int)+1 < (t.length:Int)∧to=(j:Int)+1)) (fun h=>hgt h.1),if_neg (c:=to > (j:Int)∧¬(true=true∧(j:Int)+1 < (t.length:Int)∧to=(j:Int)+1)) (fun h=>hgt h.1)]
 have both:∀(on:Bool) (to:Int) (out:List Int), -1≤to→out=(if 0≤to∧to≤(j:Int) then [to] else [])→Goes (Zhb t (j:Int)) (.br on (.jmp (.l12 to out (decide (IntKind.i64.wrap ((j:Int)+1) < Int.ofNat t.length)))) (.jmp (.l12 to out false))) (nextL t.length on to (j:Int)):=by
  intro on to out hto hout
  subst hout
  rw[Ze,←key,hw]
  cases on with
  | true=>
   rw[if_pos rfl,cond_true]
   exact l12 to _ hto fun h=>of_decide_eq_true h
  | false=>
   rw[if_neg (by decide),cond_false]
   exact l12 to _ hto fun h=>by cases h
 have hr:= @ZNc t j
 rw[Ze]
 unfold onOf
 by_cases hjmp:(ZaJ (t.getD j (dflt Za))).2=true
 ·have hto:toOf t j=findI (t.getD j (dflt Za)).2.2.2.2.2.1 t 0:=by unfold toOf;rw[if_pos hjmp]
  rw[hto] at hr
  rw[if_pos hjmp,Ze,if_pos (Zas hj),Ze,if_pos kf,Ze,vf,hto]
  generalize findI (t.getD j (dflt Za)).2.2.2.2.2.1 t 0=to at hr
  by_cases h2:to≥0
  ·rw[if_pos (decide_eq_true h2),Ze]
   by_cases h3:to≤(j:Int)
   ·rw[if_pos (decide_eq_true h3)]
    exact both _ to _ hr.1 (by rw[if_pos ⟨h2,h3⟩])
   ·rw[if_neg (by simpa using h3)]
    exact both _ to _ hr.1 (by rw[if_neg (fun h=>h3 h.2)])
  ·rw[if_neg (by simpa using h2)]
   exact both _ to _ hr.1 (by rw[if_neg (fun h=>h2 h.1)])
 ·have hto:toOf t j= -1:=by unfold toOf;rw[if_neg hjmp]
  rw[if_neg hjmp,hto]
  exact both _ (-1) _ (by omega) (by rw[if_neg (fun h=>by omega)])
end Go.Ev
end

section
open Go Go.Ev
namespace Go.Ev
noncomputable section
noncomputable def Zwp:Run:=entG ZhO ZrQ (fun a=>ZfM a.1 a.2.1) (fun a=>Zad a.1 a.2.1)
theorem ZzJ:EntOK Go.Proofs.Tryz.prog 75 Zwp:=ZH (tb:=ZtP) (c:=ZqP) ZLI (by kernel_rfl) (by kernel_rfl) (by kernel_rfl) (fun a=>by kernel_rfl) fun ⟨t,i,_⟩ hk=>Zm (c:=ZqP) (K:=fun v=>(ZrQ v,tps (toForms ZhO (t,i,())))) (S:=Zhs t i) (by kernel_rfl) (ZKT t i) (ZJC t i) (ZNC t i hk)
end
end Go.Ev
end

section
open Go Go.Ev
namespace Go.Ev
noncomputable section
noncomputable def Zsz:Tbl:=[]
theorem ZBa:∀p∈Zsz,EntOK Go.Proofs.Tryz.prog p.1 p.2:=Zt
noncomputable def ZDs:Code:=Go.Proofs.Tryz.f77.body.getD .skip
noncomputable def ZmG:Run:=entE Go.Proofs.Tryz.prog Zsz Go.Proofs.Tryz.f77 ZDs
theorem Zso:EntOK Go.Proofs.Tryz.prog 77 ZmG:=ZNf ZBa (by kernel_rfl) (by kernel_rfl) (by kernel_rfl) (fun xs=>by kernel_rfl)
end
end Go.Ev
end

section
open Go Go.Ev
namespace Go.Ev
noncomputable section
def ZmK:PSig:=[.obj 107 [(.d (.int .i64)),(.m (.int .i64) (.int .u64))],.dat false (.int .i64)]
noncomputable def Zph:Tbl:=[(77,ZmG)]
theorem ZCo:∀p∈Zph,EntOK Go.Proofs.Tryz.prog p.1 p.2:=Zg Zso (Zt)
noncomputable def ZgG:Code:=Go.Proofs.Tryz.f54.body.getD .skip
def ZmE:Tb:=[]
def Zvx (s:Int×List (Int×Int)) (i:Int):Empty→JT Empty (Bool×Int×List (Int×Int)):=fun j=>nomatch j
def Zmx (s:Int×List (Int×Int)) (i:Int):JT Empty (Bool×Int×List (Int×Int)):=.br (decide (i≥(0:Int))) (.br (decide (i < s.1)) (.br (decide ((IntKind.u64.wrap (Int.tmod i (64:Int))) < (0:Int))) (.no) (.leaf (((bitAnd IntKind.u64 (Int.fdiv (Option.getD (mget (kt:=(.int .i64)) (IntKind.i64.wrap (Int.tdiv i (64:Int))) s.2) (0:Int)) (2 ^ (min (Int.toNat (IntKind.u64.wrap (Int.tmod i (64:Int)))) (IntKind.u64).bits))) (1:Int))==(1:Int)),s))) (.leaf (false,s))) (.leaf (false,s))
def ZgX:Bool×Int×List (Int×Int)→Ans:=fun (r:Bool×Int×List (Int×Int))=>(.d .bool r.1,[.bx 107 [.d (.int .i64) r.2.1,.mv (.int .i64) (.int .u64) r.2.2],.top])
def Zc4 (s:Int×List (Int×Int)) (i:Int):Empty→Nat×St:=fun j=>nomatch j
theorem ZCt (s:Int×List (Int×Int)) (i:Int) (L:Lt):entryA Go.Proofs.Tryz.prog (clOf Zph) ZmE Go.Proofs.Tryz.f54 ZgG L (toPs ZmK (s,i,()))=(Zmx s i).run (fun v=>some (ZgX v)) fun j=>L (Zc4 s i j).1 (Zc4 s i j).2:=by kernel_rfl
theorem ZCd (s:Int×List (Int×Int)) (i:Int):∀(L:Lt) (j:Empty),procOf (procsF Go.Proofs.Tryz.prog (clOf Zph) ZmE Go.Proofs.Tryz.f54 ZgG (toPs ZmK (s,i,()))) (Zc4 s i j).1 L (Zc4 s i j).2=(Zvx s i j).run (fun v=>some (ZgX v)) fun j=>L (Zc4 s i j).1 (Zc4 s i j).2:=fun L j=>nomatch j
end
end Go.Ev
end

section
open Go
namespace Go.Ev
def Zq (s:Int×List (Int×Int)) (i:Int):Bool×Int×List (Int×Int):=(hasS s i,s)
theorem ZEX (s:Int×List (Int×Int)) (i:Int):Goes (Zvx s i) (Zmx s i) (Zq s i):=by
 unfold Zmx Zq hasS
 rw[Ze]
 by_cases h0:i≥0
 ·rw[if_pos (decide_eq_true h0),Ze,decide_eq_true h0,Bool.true_and]
  by_cases h1:i < s.1
  ·rw[if_pos (decide_eq_true h1),Ze,if_neg (by rw[ZAv];decide),decide_eq_true h1,Bool.true_and]
   exact .leaf
  ·rw[if_neg (by simpa using h1),decide_eq_false h1,Bool.false_and]
   exact .leaf
 ·rw[if_neg (by simpa using h0),decide_eq_false h0,Bool.false_and]
  exact .leaf
end Go.Ev
end

section
open Go Go.Ev
namespace Go.Ev
noncomputable section
noncomputable def ZgP:Run:=entO ZmK ZgX (fun a=>true) (fun a=>Zq a.1 a.2.1)
theorem Ze0:EntOK Go.Proofs.Tryz.prog 54 ZgP:=ZNd (tb:=ZmE) (c:=ZgG) (ZqM (ZjR (fn:=Go.Proofs.Tryz.f54) (c:=ZgG) (by kernel_rfl) (by kernel_rfl) (by kernel_rfl))) ZCo (by kernel_rfl) (by kernel_rfl) (fun a=>by kernel_rfl) fun ⟨s,i,_⟩ hk=>Zm (c:=ZgG) (K:=ZgX) (S:=Zc4 s i) (by kernel_rfl) (ZCt s i) (ZCd s i) (ZEX s i)
end
end Go.Ev
end

section
open Go Go.Ev
namespace Go.Ev
noncomputable section
def ZmA:PSig:=[.obj 107 [(.d (.int .i64)),(.m (.int .i64) (.int .u64))],.dat false (.int .i64)]
noncomputable def Zpf:Tbl:=[(77,ZmG),(54,ZgP)]
theorem ZCT:∀p∈Zpf,EntOK Go.Proofs.Tryz.prog p.1 p.2:=Zg Zso (Zg Ze0 (Zt))
noncomputable def ZgY:Code:=Go.Proofs.Tryz.f53.body.getD .skip
def ZmF:Tb:=[]
def ZvU (s:Int×List (Int×Int)) (i:Int):Empty→JT Empty (Bool×Int×List (Int×Int)):=fun j=>nomatch j
def Zm5 (s:Int×List (Int×Int)) (i:Int):JT Empty (Bool×Int×List (Int×Int)):=.br (decide (i < (0:Int))) (.leaf (false,s)) (.br (decide (i≥s.1)) (.leaf (false,s)) (.br (Zq s i).1 (.leaf (false,(Zq s i).2)) (.br (decide ((IntKind.u64.wrap (Int.tmod i (64:Int))) < (0:Int))) (.no) (.leaf (true,((Zq s i).2.1,(mput (kt:=(.int .i64)) (IntKind.i64.wrap (Int.tdiv i (64:Int))) (bitOr IntKind.u64 (Option.getD (mget (kt:=(.int .i64)) (IntKind.i64.wrap (Int.tdiv i (64:Int))) (Zq s i).2.2) (0:Int)) (IntKind.u64.wrap ((1:Int)*(2 ^ (min (Int.toNat (IntKind.u64.wrap (Int.tmod i (64:Int)))) (IntKind.u64).bits))))) (Zq s i).2.2)))))))
def ZgJ:Bool×Int×List (Int×Int)→Ans:=fun (r:Bool×Int×List (Int×Int))=>(.d .bool r.1,[.bx 107 [.d (.int .i64) r.2.1,.mv (.int .i64) (.int .u64) r.2.2],.top])
def Zdh (s:Int×List (Int×Int)) (i:Int):Empty→Nat×St:=fun j=>nomatch j
theorem ZCy (s:Int×List (Int×Int)) (i:Int) (L:Lt):entryA Go.Proofs.Tryz.prog (clOf Zpf) ZmF Go.Proofs.Tryz.f53 ZgY L (toPs ZmA (s,i,()))=(Zm5 s i).run (fun v=>some (ZgJ v)) fun j=>L (Zdh s i j).1 (Zdh s i j).2:=by kernel_rfl
theorem ZCu (s:Int×List (Int×Int)) (i:Int):∀(L:Lt) (j:Empty),procOf (procsF Go.Proofs.Tryz.prog (clOf Zpf) ZmF Go.Proofs.Tryz.f53 ZgY (toPs ZmA (s,i,()))) (Zdh s i j).1 L (Zdh s i j).2=(ZvU s i j).run (fun v=>some (ZgJ v)) fun j=>L (Zdh s i j).1 (Zdh s i j).2:=fun L j=>nomatch j
end
end Go.Ev
end

section
open Go
namespace Go.Ev
def Zr (s:Int×List (Int×Int)) (i:Int):Bool×Int×List (Int×Int):=putS s i
theorem ZEv (s:Int×List (Int×Int)) (i:Int):Goes (ZvU s i) (Zm5 s i) (Zr s i):=by
 unfold Zm5 Zr putS
 simp only[Zq]
 rw[Ze]
 by_cases h0:i < 0
 ·rw[if_pos (decide_eq_true h0),if_pos (.inl h0)];exact .leaf
 ·rw[if_neg (by simpa using h0),Ze]
  by_cases h1:i≥s.1
  ·rw[if_pos (decide_eq_true h1),if_pos (.inr (.inl h1))];exact .leaf
  ·rw[if_neg (by simpa using h1),Ze]
   by_cases h2:hasS s i=true
   ·rw[if_pos h2,if_pos (.inr (.inr h2))];exact .leaf
   ·rw[if_neg h2,Ze,if_neg (by rw[ZAv];decide),if_neg (by intro h;rcases h with h | h | h <;> first | exact h0 h | exact h1 h | exact h2 h)]
    exact .leaf
end Go.Ev
end

section
open Go Go.Ev
namespace Go.Ev
noncomputable section
noncomputable def Zc7:Run:=entO ZmA ZgJ (fun a=>true) (fun a=>Zr a.1 a.2.1)
theorem Zcs:EntOK Go.Proofs.Tryz.prog 53 Zc7:=ZNd (tb:=ZmF) (c:=ZgY) (ZqM (ZjR (fn:=Go.Proofs.Tryz.f53) (c:=ZgY) (by kernel_rfl) (by kernel_rfl) (by kernel_rfl))) ZCT (by kernel_rfl) (by kernel_rfl) (fun a=>by kernel_rfl) fun ⟨s,i,_⟩ hk=>Zm (c:=ZgY) (K:=ZgJ) (S:=Zdh s i) (by kernel_rfl) (ZCy s i) (ZCu s i) (ZEv s i)
end
end Go.Ev
end

section
open Go Go.Ev
namespace Go.Ev
noncomputable section
def ZeQ:PSig:=[.obj 107 [(.d (.int .i64)),(.m (.int .i64) (.int .u64))]]
noncomputable def Zps:Tbl:=[]
noncomputable def Zji:Code:=match Go.Proofs.Tryz.f76.body with | some (.seq _ (.seq _ (.seq _ (.seq _ (.seq _ d)))))=>d | _=>.skip
def Zbw:Tb:=[(2,⟨[0,4,26,27,28],[(5,58)]⟩),(8,⟨[0,4,7,8,26,27,28],[(5,58)]⟩)]
inductive Zds where | l2 (h:Int) (h1:List Int) (h2:Int) (out:List Int) | l8 (k:Int) (h:Int) (h1:List Int) (i:Int) (out:List Int) (h2:Int)
def ZaV (s:Int×List (Int×Int)) (places:List Int):Zds→JT Zds ((List Int)×Int×List (Int×Int)) |.l2 h h1 h2 out=>.br (decide (h2 < h)) (.br ((decide ((0:Int)≤h2))&&(decide (h2 < (Int.ofNat (List.length h1))))) (.jmp (.l8 (List.getD h1 (Int.toNat h2) (dflt (.int .i64))) h h1 (0:Int) out h2)) (.no)) (.leaf (out,s)) |.l8 k h h1 i out h2=>.br (decide (i < (64:Int))) (.br (decide ((IntKind.u64.wrap i) < (0:Int))) (.no) (.br ((bitAnd IntKind.u64 (Int.fdiv (Option.getD (mget (kt:=(.int .i64)) k s.2) (0:Int)) (2 ^ (min (Int.toNat (IntKind.u64.wrap i)) (IntKind.u64).bits))) (1:Int))==(1:Int)) (.br (Nat.ble (((List.length out)+1)*8) limit) (.jmp (.l8 k h h1 (IntKind.i64.wrap (i+(1:Int))) (out++[(IntKind.i64.wrap ((IntKind.i64.wrap (k*(64:Int)))+i))]) h2)) (.no)) (.jmp (.l8 k h h1 (IntKind.i64.wrap (i+(1:Int))) out h2)))) (.jmp (.l2 h h1 (IntKind.i64.wrap (h2+(1:Int))) out))
def ZiI (s:Int×List (Int×Int)) (places:List Int):JT Zds ((List Int)×Int×List (Int×Int)):=.jmp (.l2 (Int.ofNat (List.length places)) places (0:Int) [])
def Zjz:(List Int)×Int×List (Int×Int)→Ans:=fun (r:(List Int)×Int×List (Int×Int))=>(.rw 3 (.int .i64) r.1,[.bx 107 [.d (.int .i64) r.2.1,.mv (.int .i64) (.int .u64) r.2.2]])
def Zco (s:Int×List (Int×Int)) (places:List Int):Zds→Nat×St |.l2 h h1 h2 out=>(2,⟨mkTm 56 [(0,.pt 1 0 0),(4,.own 5 0 none),(26,.own 27 0 none),(27,.d (.int .i64) h),(28,.d (.int .i64) h2)],[(1,0,.box 107 [.d (.int .i64) s.1,.mp 1026 0] (some 0)),(5,0,.row 3 (.int .i64) out false),(27,0,.row 3 (.int .i64) h1 false),(1026,0,.map (.int .i64) (.int .u64) s.2)]⟩) |.l8 k h h1 i out h2=>(8,⟨mkTm 56 [(0,.pt 1 0 0),(4,.own 5 0 none),(7,.d (.int .i64) k),(8,.d (.int .i64) i),(26,.own 27 0 none),(27,.d (.int .i64) h),(28,.d (.int .i64) h2)],[(1,0,.box 107 [.d (.int .i64) s.1,.mp 1026 0] (some 0)),(5,0,.row 3 (.int .i64) out false),(27,0,.row 3 (.int .i64) h1 false),(1026,0,.map (.int .i64) (.int .u64) s.2)]⟩)
def ZeS (s:Int×List (Int×Int)) (places:List Int):St:=⟨mkTm 56 [(0,.pt 1 0 0),(3,.own 4 0 none),(4,.nil)],[(1,0,.box 107 [.d (.int .i64) s.1,.mp 1026 0] (some 0)),(4,0,.row 3 (.int .i64) places false),(1026,0,.map (.int .i64) (.int .u64) s.2)]⟩
theorem ZyL (s:Int×List (Int×Int)) (places:List Int) (L:Lt):evC Go.Proofs.Tryz.prog (clOf Zps) Zbw L Zji 0 (finA Go.Proofs.Tryz.prog Zbw Go.Proofs.Tryz.f76 (toPs ZeQ (s,()))) (fun _ _=>none) (finA Go.Proofs.Tryz.prog Zbw Go.Proofs.Tryz.f76 (toPs ZeQ (s,()))) (ZeS s places)=(ZiI s places).run (fun v=>some (Zjz v)) fun j=>L (Zco s places j).1 (Zco s places j).2:=by kernel_rfl
noncomputable def Zof (s:Int×List (Int×Int)) (places:List Int):List (Nat×(Lt→Kt)):=procs Go.Proofs.Tryz.prog (clOf Zps) Zbw Zji 0 (fun _=>(finA Go.Proofs.Tryz.prog Zbw Go.Proofs.Tryz.f76 (toPs ZeQ (s,())))) (fun _ _ _=>none) (fun _=>(finA Go.Proofs.Tryz.prog Zbw Go.Proofs.Tryz.f76 (toPs ZeQ (s,()))))
theorem ZxV (s:Int×List (Int×Int)) (places:List Int):∀(L:Lt) (j:Zds),procOf (Zof s places) (Zco s places j).1 L (Zco s places j).2=(ZaV s places j).run (fun v=>some (Zjz v)) fun j=>L (Zco s places j).1 (Zco s places j).2 | L,.l2 h h1 h2 out=>by kernel_rfl | L,.l8 k h h1 i out h2=>by kernel_rfl
end
end Go.Ev
end

section
open Go
namespace Go.Ev
theorem Zzc (s:Int×List (Int×Int)) (places:List Int) (hk:Nat.ble (places.length*512) limit=true):Goes (ZaV s places) (ZiI s places) (listAt s.2 places,s):=by
 have hlim:places.length*512≤limit:=Nat.le_of_ble_eq_true hk
 have hn:places.length < 4611686018427387904:=by unfold limit at hlim;omega
 have inner:∀(k:Int) (j:Nat),j < places.length→∀(i:Nat),i≤64→∀(out:List Int) r,(out.length+(64 - i))*8≤limit→
   Goes (ZaV s places) (.jmp (.l2 (Int.ofNat (List.length places)) places ((j+1:Nat):Int) (out++wordList s.2 k i (64 - i)))) r→
   Goes (ZaV s places) (.jmp (.l8 k (Int.ofNat (List.length places)) places (i:Int) out (j:Int))) r:=by
  intro k j hj
  refine down ?_ fun i hi ih=>?_
  ·intro out r _ h
   rw[Zh]
   have e:decide (((64:Nat):Int) < (64:Int))=false:=by decide
   simp only[ZaV,Ze,e,Bool.false_eq_true,if_false,Zo (k:=j) (by omega)]
   simpa[wordList] using h
  ·intro out r hl h
   rw[Zh]
   have e:decide ((i:Int) < (64:Int))=true:=decide_eq_true (by omega)
   have hw:=Zw6 hi
   have e2:decide ((i:Int) < (0:Int))=false:=decide_eq_false (by omega)
   have hcons:wordList s.2 k i (64 - i)=(if bitE (wordAt s.2 k) (i:Nat) then [numE k (i:Nat)] else [])++wordList s.2 k (i+1) (64 - (i+1)):=by
    unfold wordList
    rw[show 64 - i=(64 - (i+1))+1 by omega,List.range'_succ,List.filter_cons]
    split <;> simp
   rw[hcons] at h
   have hb:((bitAnd IntKind.u64 (Int.fdiv (Option.getD (mget (kt:=(.int .i64)) k s.2) (0:Int)) (2 ^ (min (Int.toNat (IntKind.u64.wrap (i:Int))) (IntKind.u64).bits))) (1:Int))==(1:Int))=bitE (wordAt s.2 k) (i:Nat):=rfl
   unfold ZaV
   rw[Ze,if_pos e,Ze,if_neg (by rw[hw,e2];decide),Ze,hb,Zo (k:=i) (by omega)]
   by_cases hbit:bitE (wordAt s.2 k) (i:Nat)=true
   ·rw[if_pos hbit]
    rw[if_pos hbit] at h
    rw[Ze,if_pos (Nat.ble_eq_true_of_le (by omega))]
    refine ih (out++[numE k (i:Nat)]) r (by simp;omega) ?_
    simpa using h
   ·rw[if_neg hbit]
    rw[if_neg hbit,List.nil_append] at h
    exact ih out r (by omega) h
 have outer:∀j,j≤places.length→∀out:List Int,(out.length+(places.length - j)*64)*8≤limit→
   Goes (ZaV s places) (.jmp (.l2 (Int.ofNat (List.length places)) places (j:Int) out)) (out++listAt s.2 (places.drop j),s):=by
  refine down ?_ fun j hj ih=>?_
  ·intro out _
   rw[Zh]
   simp only[ZaV,Ze,Zw (Nat.lt_irrefl _),List.drop_length,Bool.false_eq_true,if_false]
   rw[show out++listAt s.2 []=out by simp[listAt]]
   exact .leaf
  ·intro out hl
   rw[Zh,ZM hj]
   simp only[ZaV,Ze,ZK hj,nng,Bool.and_self,if_true,Int.toNat_natCast,ZG hj]
   have hwl:=ZBH s.2 places[j] 0 64
   refine inner places[j] j hj 0 (by omega) out _ (by omega) ?_
   have:=ih (out++wordList s.2 places[j] 0 64) (by rw[List.length_append];omega)
   rw[show out++listAt s.2 (places[j] :: places.drop (j+1))=(out++wordList s.2 places[j] 0 64)++listAt s.2 (places.drop (j+1)) by simp only[listAt,List.flatMap_cons,List.append_assoc]]
   exact this
 have:=outer 0 (Nat.zero_le _) [] (by simp;omega)
 simpa[ZiI] using this
end Go.Ev
end

section
open Go Go.Ev
namespace Go.Ev
def renSort:Go.Shelf.Ren:=⟨fun n=>if n=189 then 42 else if n=125 then 65 else if n=257 then 64 else if n=128 then 110 else if n=129 then 111 else if n=294 then 101 else if n=295 then 102 else if n=296 then 103 else if n=297 then 104 else if n=298 then 105 else if n=299 then 106 else if n=216 then 107 else if n=300 then 108 else if n=301 then 109 else if n=328 then 133 else if n=329 then 134 else if n=330 then 135 else if n=331 then 136 else if n=332 then 137 else if n=215 then 138 else if n=343 then 152 else n,
 fun n=>if n=28 then 29 else if n=46 then 92 else if n=51 then 139 else if n=53 then 110 else if n=183 then 132 else if n=182 then 131 else if n=131 then 99 else if n=218 then 152 else if n=222 then 156 else if n=228 then 163 else if n=229 then 146 else n,
 fun n=>n⟩
theorem ZAj:Go.Proofs.Lays.n189 Go.Proofs.Tryz.prog renSort where
 mixed:=by kernel_rfl
 f125:=by kernel_rfl
 f128:=by kernel_rfl
 f129:=by kernel_rfl
 f189:=by kernel_rfl
 f215:=by kernel_rfl
 f216:=by kernel_rfl
 f257:=by kernel_rfl
 f294:=by kernel_rfl
 f295:=by kernel_rfl
 f296:=by kernel_rfl
 f297:=by kernel_rfl
 f298:=by kernel_rfl
 f299:=by kernel_rfl
 f300:=by kernel_rfl
 f301:=by kernel_rfl
 f328:=by kernel_rfl
 f329:=by kernel_rfl
 f330:=by kernel_rfl
 f331:=by kernel_rfl
 f332:=by kernel_rfl
 f343:=by kernel_rfl
 t0:=by kernel_rfl
 a0:=fun w=>by kernel_rfl
 z0:=fun w=>by kernel_rfl
 v0:=fun w=>by kernel_rfl
 t3:=by kernel_rfl
 a3:=fun w=>by kernel_rfl
 z3:=fun w=>by kernel_rfl
 v3:=fun w=>by kernel_rfl
 t4:=by kernel_rfl
 a4:=fun w=>by kernel_rfl
 z4:=fun w=>by kernel_rfl
 v4:=fun w=>by kernel_rfl
 t5:=by kernel_rfl
 a5:=fun w=>by kernel_rfl
 z5:=fun w=>by kernel_rfl
 v5:=fun w=>by kernel_rfl
 t9:=by kernel_rfl
 a9:=fun w=>by kernel_rfl
 z9:=fun w=>by kernel_rfl
 v9:=fun w=>by kernel_rfl
 t28:=by kernel_rfl
 a28:=fun w=>by kernel_rfl
 z28:=fun w=>by kernel_rfl
 v28:=fun w=>by kernel_rfl
 t46:=by kernel_rfl
 a46:=fun w=>by kernel_rfl
 z46:=fun w=>by kernel_rfl
 v46:=fun w=>by kernel_rfl
 t51:=by kernel_rfl
 a51:=fun w=>by kernel_rfl
 z51:=fun w=>by kernel_rfl
 v51:=fun w=>by kernel_rfl
 t53:=by kernel_rfl
 a53:=fun w=>by kernel_rfl
 z53:=fun w=>by kernel_rfl
 v53:=fun w=>by kernel_rfl
 t131:=by kernel_rfl
 a131:=fun w=>by kernel_rfl
 z131:=fun w=>by kernel_rfl
 v131:=fun w=>by kernel_rfl
 t182:=by kernel_rfl
 a182:=fun w=>by kernel_rfl
 z182:=fun w=>by kernel_rfl
 v182:=fun w=>by kernel_rfl
 t183:=by kernel_rfl
 a183:=fun w=>by kernel_rfl
 z183:=fun w=>by kernel_rfl
 v183:=fun w=>by kernel_rfl
 t218:=by kernel_rfl
 a218:=fun w=>by kernel_rfl
 z218:=fun w=>by kernel_rfl
 v218:=fun w=>by kernel_rfl
 t222:=by kernel_rfl
 a222:=fun w=>by kernel_rfl
 z222:=fun w=>by kernel_rfl
 v222:=fun w=>by kernel_rfl
 t228:=by kernel_rfl
 a228:=fun w=>by kernel_rfl
 z228:=fun w=>by kernel_rfl
 v228:=fun w=>by kernel_rfl
 t229:=by kernel_rfl
 a229:=fun w=>by kernel_rfl
 z229:=fun w=>by kernel_rfl
 v229:=fun w=>by kernel_rfl
theorem sortOK:SortOK Go.Proofs.Tryz.prog 42:=⟨fun blk off cap zs w h1 h2 h3=>Go.Proofs.Any.slices_Sort_int ZAj blk off cap zs w h1 h2 h3,fun p cap w=>Go.Proofs.Any.slices_Sort_int_none ZAj p cap w⟩
end Go.Ev
end

section
open Go Go.Ev
namespace Go.Ev
def Zsr:PSig:=[.obj 107 [(.d (.int .i64)),(.m (.int .i64) (.int .u64))]]
def ZbV (s:Int×List (Int×Int)):(List Int)×Int×List (Int×Int):=(listS s,s)
def Zbu (s:Int×List (Int×Int)):Bool:=Nat.ble (s.2.length*512) limit
def ZuE:(List Int)×Int×List (Int×Int)→Ans:=Zjz
section
abbrev SetL:=List (El (.int .i64)×El (.int .u64))
noncomputable def setListBody:Code:=Go.Proofs.Tryz.f76.body.getD .skip
noncomputable def setListR:Code:=fstC (sndC (sndC (sndC setListBody)))
noncomputable def setListX:RangeText:=rangeText (sndC setListR)
noncomputable def setListSort:Code:=fstC (sndC (sndC (sndC (sndC setListBody))))
def setLab1:Lab:=⟨[0,3,4],[]⟩
def setLab2:Lab:=⟨[0,3,4,15],[(4,58)]⟩
def setObs (s:Int×SetL) (ps:List (El (.int .i64))):List (Id×Nat×Obj):=[(1,0,.box 107 [.d (.int .i64) s.1,.mp 1026 0] (some 0)),(4,0,.row 3 (.int .i64) ps false),(1026,0,.gone (some 1000))]
def setK (s:Int×SetL) (v:Value) (ps:List (El (.int .i64))):St:=⟨mkTm 56 [(0,.pt 1 0 0),(3,.own 4 0 none),(4,.nil),(15,.cst v)],setObs s ps⟩
def setI (s:Int×SetL) (v:Value) (done:SetL):St:=setK s v (done.map Prod.fst)
def setT (s:Int×SetL) (v:Value) (done:SetL) (e:El (.int .i64)×El (.int .u64)):St:=((setI s v done).put (some 16) (.tu [mkB true,.d (.int .i64) e.1,.d (.int .u64) e.2])).put (some 17) (mkB true)
def setU (s:Int×SetL) (v:Value) (done:SetL) (e:El (.int .i64)×El (.int .u64)):St:=(((setT s v done e).put (some 18) (.tu [.d (.int .i64) e.1,.d (.int .u64) e.2])).put (some 19) (.d (.int .i64) e.1)).put (some 5) (.d (.int .i64) e.1)
def setE (s:Int×SetL) (v:Value) (done:SetL):St:=((setI s v done).put (some 16) (.tu [mkB false])).put (some 17) (mkB false)
def setA (s:Int×SetL):St:=⟨mkTm 56 [(0,.pt 1 0 0)],[(1,0,.box 107 [.d (.int .i64) s.1,.mp 1026 0] (some 0)),(1026,0,.map (.int .i64) (.int .u64) s.2)]⟩
def setC (s:Int×SetL):St:=⟨mkTm 56 [(0,.pt 1 0 0),(3,.nil),(4,.nil)],[(1,0,.box 107 [.d (.int .i64) s.1,.mp 1026 0] (some 0)),(1026,0,.map (.int .i64) (.int .u64) s.2)]⟩
def setM (s:Int×SetL):St:=((((setC s).put (some 11) (.pt 1 0 0)).put (some 12) (.pt 1 0 0)).put (some 13) (.pt 1 0 1)).put (some 14) (.mp 1026 0)
theorem ZNv:setListX.OK:=⟨by kernel_rfl,by kernel_rfl,by kernel_rfl,by kernel_rfl,by kernel_rfl,by kernel_rfl,by kernel_rfl,by kernel_rfl,by kernel_rfl⟩
theorem ZIp (s:Int×SetL) (v:Value) (done:SetL) (e:El (.int .i64)×El (.int .u64)) (L:Lt) (k:Kt) (x:Nat→Kt) (r:Kt):
  evC Go.Proofs.Tryz.prog (clOf []) [] L setListX.cr 0 (fun t=>k (norm Go.Proofs.Tryz.prog setLab2 t)) x r (setU s v done e)=bif Nat.ble (((done.map Prod.fst).length+1)*8) limit then k (setK s v (done.map Prod.fst++[e.1])) else none:=by kernel_rfl
theorem ZPt (s:Int×SetL) (hk:Zbu s=true):RangeEv Go.Proofs.Tryz.prog (clOf []) setListX s.2 setLab2 1026 1000 (setI s) (setE s) (setT s) (setU s) where
 it:=fun v done=>by kernel_rfl
 r1:=fun v done e k=>by kernel_rfl
 rt:=fun v done e=>by kernel_rfl
 re:=fun v done e=>by kernel_rfl
 r2:=fun v done e k=>by kernel_rfl
 r3:=fun v done e rest hp L k x r=>by
  have hl:=hp.length_eq
  simp only[List.length_append,List.length_cons] at hl
  have hlim:s.2.length*512≤limit:=Nat.le_of_ble_eq_true hk
  rw[ZIp,List.length_map,Nat.ble_eq_true_of_le (by omega),cond_true]
  unfold setI
  rw[List.map_append]
  rfl
 f1:=fun v done k=>by kernel_rfl
 ft:=fun v done=>by kernel_rfl
theorem ZKr:setListBody=.seq (fstC setListBody) (.seq (fstC (sndC setListBody)) (.seq (fstC (sndC (sndC setListBody))) (.seq (.seq (.region (ridC (fstC setListR)) (ropsC (fstC setListR)) false) setListX.code) (.seq (.region (ridC setListSort) (ropsC setListSort) false) Zji)))):=by kernel_rfl
theorem ZQe (s:Int×SetL) (L:Lt) (k:Kt) (x:Nat→Kt) (r:Kt):evC Go.Proofs.Tryz.prog (clOf []) [] L (fstC setListBody) 0 (fun t=>k (norm Go.Proofs.Tryz.prog setLab1 t)) x r (setA s)=k (setA s):=by kernel_rfl
theorem ZQm (s:Int×SetL) (L:Lt) (k:Kt) (x:Nat→Kt) (r:Kt):evC Go.Proofs.Tryz.prog (clOf []) [] L (fstC (sndC setListBody)) 0 (fun t=>k (norm Go.Proofs.Tryz.prog setLab1 t)) x r (setA s)=k (setA s):=by kernel_rfl
theorem ZPF (s:Int×SetL) (L:Lt) (k:Kt) (x:Nat→Kt) (r:Kt):evC Go.Proofs.Tryz.prog (clOf []) [] L (fstC (sndC (sndC setListBody))) 0 (fun t=>k (norm Go.Proofs.Tryz.prog setLab1 t)) x r (setA s)=k (setC s):=by kernel_rfl
def mapKV (P:Program) (T:TypeId):TypeId×TypeId:=match P.underlying T with | some (.map K V)=>(K,V) | _=>(0,0)
theorem Zvn (s:Int×SetL) (hk:Zbu s=true):CallOK Go.Proofs.Tryz.prog 76 (toPs Zsr (s,())) (ZuE (ZbV s)):=by
 obtain ⟨hcl,hdet⟩:=ZqZ (P:=Go.Proofs.Tryz.prog) Zt
 have hlim:s.2.length*512≤limit:=Nat.le_of_ble_eq_true hk
 refine ZnP (tb:=Zbw) (fn:=Go.Proofs.Tryz.f76) (c:=setListBody) (vs:=[.pt 1 0 0]) (st:=⟨[],[(1,0,.box 107 [.d (.int .i64) s.1,.mp 1026 0] (some 0)),(1026,0,.map (.int .i64) (.int .u64) s.2)]⟩) (by kernel_rfl) (by kernel_rfl) (by kernel_rfl) ?_
 intro _ Mod F0 w0 a w hr
 have hr:Rel Mod F0 w0 (setA s) a w:=hr
 rw[ZKr]
 refine wp_seq (piece hcl hdet (norm Go.Proofs.Tryz.prog setLab1) (fun h=>Z4 h) (ZQe s) hr fun a w hr=>?_)
 refine wp_seq (piece hcl hdet (norm Go.Proofs.Tryz.prog setLab1) (fun h=>Z4 h) (ZQm s) hr fun a w hr=>?_)
 refine wp_seq (piece hcl hdet (norm Go.Proofs.Tryz.prog setLab1) (fun h=>Z4 h) (ZPF s) hr fun a w hr=>?_)
 refine wp_seq (wp_seq (wp_region ?_))
 rw[show List.range (ropsC (fstC setListR)).size=[0,1,2,3,4] from by kernel_rfl]
 refine evOp hcl (o:=opC (fstC setListR) 0) (st1:=(setC s).put (some 11) (.pt 1 0 0)) (by kernel_rfl) (by kernel_rfl) (fun k=>by kernel_rfl) hr fun a w hr=>?_
 refine evOp hcl (o:=opC (fstC setListR) 1) (st1:=((setC s).put (some 11) (.pt 1 0 0)).put (some 12) (.pt 1 0 0)) (by kernel_rfl) (by kernel_rfl) (fun k=>by kernel_rfl) hr fun a w hr=>?_
 refine evOp hcl (o:=opC (fstC setListR) 2) (st1:=(((setC s).put (some 11) (.pt 1 0 0)).put (some 12) (.pt 1 0 0)).put (some 13) (.pt 1 0 1)) (by kernel_rfl) (by kernel_rfl) (fun k=>by kernel_rfl) hr fun a w hr=>?_
 refine evOp hcl (o:=opC (fstC setListR) 3) (st1:=setM s) (by kernel_rfl) (by kernel_rfl) (fun k=>by kernel_rfl) hr fun a w hr=>?_
 refine handOp (o:=opC (fstC setListR) 4) (by kernel_rfl) (by kernel_rfl) ?_
 refine rangeLoop (tm:=14) (idm0:=1026) (ver0:=0) (T:=(match (opC (fstC setListR) 4).op with |.range T _=>T | _=>0)) (K:=(mapKV Go.Proofs.Tryz.prog (match (opC (fstC setListR) 4).op with |.range T _=>T | _=>0)).1) (V:=(mapKV Go.Proofs.Tryz.prog (match (opC (fstC setListR) 4).op with |.range T _=>T | _=>0)).2)
  hcl hdet ZNv rfl rfl (ZPt s hk) (by kernel_rfl) (by kernel_rfl) (by kernel_rfl) (by kernel_rfl) (by kernel_rfl) (by kernel_rfl) (fun v=>by kernel_rfl) (fun v done=>by kernel_rfl) (fun v done=>by kernel_rfl) hr ?_
 intro v done a w hperm hr
 have hr:Rel Mod F0 w0 (ZeS s (done.map Prod.fst)) a w:=Z4 (P:=Go.Proofs.Tryz.prog) (lab:=setLab1) hr
 refine wp_seq (wp_region ?_)
 rw[show List.range (ropsC setListSort).size=[0,1] from by kernel_rfl]
 refine evOp hcl (o:=opC setListSort 0) (st1:=(ZeS s (done.map Prod.fst)).put (some 24) (.own 4 0 none)) (by kernel_rfl) (by kernel_rfl) (fun k=>by kernel_rfl) hr fun a w hr=>?_
 refine handOp (o:=opC setListSort 1) (by kernel_rfl) (by kernel_rfl) ?_
 refine sortStep (ts:=24) (id:=4) (ver:=0) (E:=3) (l:=done.map Prod.fst) (c:=(match (opC setListSort 1).op with |.call c=>c | _=>default)) (fn:=Go.Proofs.Tryz.f42) (body:=Go.Proofs.Tryz.f42.body.getD .skip) (by kernel_rfl) (by kernel_rfl) (by kernel_rfl) (by kernel_rfl) (by kernel_rfl) (by kernel_rfl) (by kernel_rfl) (by kernel_rfl) sortOK (by
  rw[List.length_map,hperm.length_eq]
  unfold limit at hlim
  omega) hr fun a w hr=>?_
 have hr:Rel Mod F0 w0 (ZeS s (sorted (done.map Prod.fst))) a w:=Z4 (P:=Go.Proofs.Tryz.prog) (lab:=setLab1) hr
 rw[ZNe (hperm.map Prod.fst)] at hr
 have hg:=Zzc s (sorted (s.2.map Prod.fst)) (by rw[List.length_mergeSort,List.length_map];exact hk)
 exact tailStep hcl hdet (ps:=Zof s (sorted (s.2.map Prod.fst))) rfl (by kernel_rfl) (ZyL s _) (ZxV s _) hg hr
end
noncomputable def Zit:Run:=entO Zsr ZuE (fun a=>Zbu a.1) (fun a=>ZbV a.1)
theorem ZkS:EntOK Go.Proofs.Tryz.prog 76 Zit:=Zxc (ZqM (ZjR (fn:=Go.Proofs.Tryz.f76) (c:=setListBody) (by kernel_rfl) (by kernel_rfl) (by kernel_rfl))) fun a h=>Zvn a.1 h
end Go.Ev
end

section
open Go Go.Ev
namespace Go.Ev
noncomputable section
def Zih:Sig:=[(true,(.sl Za)),(false,(.int .i64))]
noncomputable def ZwV:Tbl:=[(51,ZlY),(75,Zwp),(53,Zc7),(76,Zit)]
theorem ZLT:∀p∈ZwV,EntOK Go.Proofs.Tryz.prog p.1 p.2:=Zg Zmg (Zg ZzJ (Zg Zcs (Zg ZkS (Zt))))
noncomputable def ZpT:Code:=Go.Proofs.Tryz.f52.body.getD .skip
def Zsx:Tb:=[(4,⟨[2,5,6],[(1000000000000000000000000000000000000000000000000000000000007,1)]⟩)]
inductive Zmd where | l4 (len:Nat) (seen:Int) (open_:List Int) (seen1:List (Int×Int))
def ZmQ (t:List (El Za)) (i:Int):Zmd→JT Zmd (List Int) |.l4 len seen open_ seen1=>.br (decide ((Int.ofNat len) > (0:Int))) (.br ((decide ((0:Int)≤(IntKind.i64.wrap ((Int.ofNat len) - (1:Int)))))&&(decide ((IntKind.i64.wrap ((Int.ofNat len) - (1:Int))) < (Int.ofNat len)))) (.br ((decide ((0:Int)≤(IntKind.i64.wrap ((Int.ofNat len) - (1:Int)))))&&(decide ((IntKind.i64.wrap ((Int.ofNat len) - (1:Int)))≤(Int.ofNat len)))) (.br (Zr (seen,seen1) (List.getD open_ (Int.toNat (IntKind.i64.wrap ((Int.ofNat len) - (1:Int)))) (dflt (.int .i64)))).1 (.br (ZfM t (List.getD open_ (Int.toNat (IntKind.i64.wrap ((Int.ofNat len) - (1:Int)))) (dflt (.int .i64)))) (.br (Nat.ble (((List.length (List.take (Int.toNat (IntKind.i64.wrap ((Int.ofNat len) - (1:Int)))) open_))+(List.length (Zad t (List.getD open_ (Int.toNat (IntKind.i64.wrap ((Int.ofNat len) - (1:Int)))) (dflt (.int .i64))))))*8) limit) (.jmp (.l4 (List.length ((List.take (Int.toNat (IntKind.i64.wrap ((Int.ofNat len) - (1:Int)))) open_)++(Zad t (List.getD open_ (Int.toNat (IntKind.i64.wrap ((Int.ofNat len) - (1:Int)))) (dflt (.int .i64)))))) (Zr (seen,seen1) (List.getD open_ (Int.toNat (IntKind.i64.wrap ((Int.ofNat len) - (1:Int)))) (dflt (.int .i64)))).2.1 ((List.take (Int.toNat (IntKind.i64.wrap ((Int.ofNat len) - (1:Int)))) open_)++(Zad t (List.getD open_ (Int.toNat (IntKind.i64.wrap ((Int.ofNat len) - (1:Int)))) (dflt (.int .i64))))) (Zr (seen,seen1) (List.getD open_ (Int.toNat (IntKind.i64.wrap ((Int.ofNat len) - (1:Int)))) (dflt (.int .i64)))).2.2)) (.no)) (.no)) (.jmp (.l4 (Int.toNat (IntKind.i64.wrap ((Int.ofNat len) - (1:Int)))) (Zr (seen,seen1) (List.getD open_ (Int.toNat (IntKind.i64.wrap ((Int.ofNat len) - (1:Int)))) (dflt (.int .i64)))).2.1 open_ (Zr (seen,seen1) (List.getD open_ (Int.toNat (IntKind.i64.wrap ((Int.ofNat len) - (1:Int)))) (dflt (.int .i64)))).2.2))) (.no)) (.no)) (.br (Zbu (seen,seen1)) (.leaf (ZbV (seen,seen1)).1) (.no))
def Zt6 (t:List (El Za)) (i:Int):JT Zmd (List Int):=.br (ZfM t i) (.jmp (.l4 (List.length (Zad t i)) (Zz (Int.ofNat (List.length t))).1 (Zad t i) (Zz (Int.ofNat (List.length t))).2)) (.no)
def ZpR:List Int→AV:=fun (r:List Int)=>.rw 3 (.int .i64) r
def ZhF (t:List (El Za)) (i:Int):Zmd→Nat×St |.l4 len seen open_ seen1=>(4,⟨mkTm 39 [(2,.pt 3 0 0),(5,.pt 6 0 0),(6,.own 7 0 (some len))],[(3,0,.box 42 [.d (.sl Za) t] none),(6,0,.box 107 [.d (.int .i64) seen,.mp 6146 0] none),(7,0,.row 3 (.int .i64) open_ false),(6146,0,.map (.int .i64) (.int .u64) seen1)]⟩)
theorem ZK4 (t:List (El Za)) (i:Int) (L:Lt):entryA Go.Proofs.Tryz.prog (clOf ZwV) Zsx Go.Proofs.Tryz.f52 ZpT L (toForms Zih (t,i,()))=(Zt6 t i).run (fun v=>some (ZpR v,tps (toForms Zih (t,i,())))) fun j=>L (ZhF t i j).1 (ZhF t i j).2:=by kernel_rfl
theorem ZMi (t:List (El Za)) (i:Int):∀(L:Lt) (j:Zmd),procOf (procsF Go.Proofs.Tryz.prog (clOf ZwV) Zsx Go.Proofs.Tryz.f52 ZpT (toForms Zih (t,i,()))) (ZhF t i j).1 L (ZhF t i j).2=(ZmQ t i j).run (fun v=>some (ZpR v,tps (toForms Zih (t,i,())))) fun j=>L (ZhF t i j).1 (ZhF t i j).2 | L,.l4 len seen open_ seen1=>by kernel_rfl
end
end Go.Ev
end

section
open Go
namespace Go.Ev
noncomputable def ZbI (t:List (El Za)) (i:Int):List Int:=listOf t.length (fromB t i)
def Zjh (t:List (El Za)) (i:Int):Bool:=flowOK t
theorem ZFt (t:List (El Za)) (i:Int):(Zad t i).length≤3:=by
 unfold Zad
 by_cases h:0≤i∧i < (t.length:Int)
 ·obtain ⟨j,rfl⟩:=Int.eq_ofNat_of_zero_le h.1
  rw[←ZOD (by omega)]
  unfold nextL
  simp only[List.length_append]
  split <;> split <;> split <;> simp
 ·rw[ZC0 h];simp
theorem ZP7 {l:List Int} {n:Nat} (h:n+1≤l.length):l.take (n+1)=l.take n++[l.getD n 0]:=by
 have hn:n < l.length:=by omega
 rw[List.take_succ_eq_append_getElem hn,ZG hn]
theorem ZNl (t:List (El Za)) (i:Int) (hk:Zjh t i=true):Goes (ZmQ t i) (Zt6 t i) (ZbI t i):=by
 have hlen:=Zbx hk
 generalize hn:t.length=n at hlen
 have loop:∀m,∀(M:Nat→Bool) (s:Int×List (Int×Int)) (open_:List Int) (len:Nat),len≤open_.length→4*(n - card n M)+len=m→SetOK s n M→(∀j,M j=true→Come (fun k j=>nextB t (k:Int) j) (nextB t i) j)→
   (∀x∈open_.take len,∃j:Nat,x=(j:Int)∧Come (fun k j=>nextB t (k:Int) j) (nextB t i) j)→(∀j,nextB t i j=true→M j=true∨(j:Int)∈open_.take len)→(∀k j,M k=true→nextB t (k:Int) j=true→M j=true∨(j:Int)∈open_.take len)→
   len≤3*(card n M+1)→Goes (ZmQ t i) (.jmp (.l4 len s.1 open_ s.2)) (ZbI t i):=by
  intro m
  induction m using Nat.strongRecOn with
  | _ m ih=>
  intro M s open_ len hl hm hs h1 h2 h3 h4 h5
  cases len with
  | zero=>
   rw[Zh,ZmQ,Ze,if_neg (by decide)]
   have hkl:Zbu (s.1,s.2)=true:=Nat.ble_eq_true_of_le (by have:=hs.few;unfold limit;show s.2.length*512≤_;omega)
   rw[Ze,if_pos hkl]
   have hv:(ZbV (s.1,s.2)).1=ZbI t i:=by
    show listS s=_
    rw[hs.list (by omega)]
    unfold ZbI fromB
    rw[hn]
    refine Zt5 fun j _=>Zq8 (fun j hj=>?_) (fun k j hk hj=>?_) h1 j
    ·simpa using h3 j hj
    ·simpa using h4 k j hk hj
   rw[hv];exact .leaf
  | succ len=>
   have hc:= @ZfC n M
   have e:IntKind.i64.wrap (Int.ofNat (len+1) - 1)=(len:Int):=by
    rw[wrap_i64 (by simp <;> omega) (by simp <;> omega)];simp
   have g1:decide (Int.ofNat (len+1) > (0:Int))=true:=decide_eq_true (by simp <;> omega)
   have g2:(decide ((0:Int)≤(len:Int))&&decide ((len:Int) < Int.ofNat (len+1)))=true:=Zas (by omega)
   have g3:(decide ((0:Int)≤(len:Int))&&decide ((len:Int)≤Int.ofNat (len+1)))=true:=by simp;omega
   rw[Zh,ZmQ,e,Ze,if_pos g1,Ze,if_pos g2,Ze,if_pos g3,Ze,Int.toNat_natCast]
   have htk:=ZP7 hl
   obtain ⟨j,hj,hcj⟩:=h2 (open_.getD len 0) (by rw[htk];simp)
   have hjn:j < n:=by
    have:=ZGV (n:=t.length) (fun j=>ZeT) (fun k j=>ZeT) hcj
    omega
   have hd:open_.getD len (dflt (.int .i64))=(j:Int):=hj
   rw[hd]
   have hput:Zr (s.1,s.2) (j:Int)=putS s (j:Int):=rfl
   rw[hput]
   have sub:∀x,x∈open_.take len→x∈open_.take (len+1):=fun x hx=>by rw[htk];simp[hx]
   cases hMj:M j with
   | true=>
    have hno:=hs.put_no (by omega) (i:=(j:Int)) (fun h=>by rw[Int.toNat_natCast,hMj] at h;cases h.2.2)
    rw[hno,if_neg (by simp)]
    have lose:∀k:Nat,(M k=true∨(k:Int)∈open_.take (len+1))→(M k=true∨(k:Int)∈open_.take len):=fun k h=>by
     rcases h with h | h
     ·exact .inl h
     ·rw[htk,List.mem_append] at h
      rcases h with h | h
      ·exact .inr h
      ·simp only[List.mem_singleton] at h
       rw[hj] at h
       have:k=j:=by omega
       subst this
       exact .inl hMj
    exact ih (m - 1) (by omega) M s open_ len (by omega) (by omega) hs h1 (fun x hx=>h2 x (sub x hx)) (fun k hk=>lose k (h3 k hk)) (fun k k' hk hk'=>lose k' (h4 k k' hk hk')) (by omega)
   | false=>
    obtain ⟨p1,p2⟩:=hs.put (by omega) hjn hMj
    have hsh:=ZFt t (j:Int)
    have hkn:ZfM t (j:Int)=true:=hk
    rw[p1,if_pos rfl,Ze,if_pos hkn,Ze,if_pos (Nat.ble_eq_true_of_le (by
     rw[List.length_take];unfold limit;omega))]
    have hcard:=Zos hMj hjn
    have hcl2:= @ZfC n (fun k=>M k || (k==j))
    have hnl:∀k:Nat,nextB t (j:Int) k=true→(k:Int)∈Zad t (j:Int):=fun k hk=>ZcE.2 ⟨k,ZeT hk,hk,rfl⟩
    have htake:(open_.take len++Zad t (j:Int)).take (open_.take len++Zad t (j:Int)).length=open_.take len++Zad t (j:Int):=List.take_length
    have hlen2:(open_.take len++Zad t (j:Int)).length≤len+3:=by rw[List.length_append,List.length_take];omega
    have keep:∀k:Nat,(M k=true∨(k:Int)∈open_.take (len+1))→((M k || (k==j))=true∨(k:Int)∈open_.take len++Zad t (j:Int)):=fun k h=>by
     rcases h with h | h
     ·exact .inl (by rw[h];rfl)
     ·rw[htk,List.mem_append] at h
      rcases h with h | h
      ·exact .inr (List.mem_append_left _ h)
      ·simp only[List.mem_singleton] at h
       rw[hj] at h
       have:k=j:=by omega
       subst this
       exact .inl (by simp)
    refine ih _ (by omega) (fun k=>M k || (k==j)) (putS s (j:Int)).2 (open_.take len++Zad t (j:Int)) (open_.take len++Zad t (j:Int)).length (Nat.le_refl _) rfl p2 (fun k hk=>?_) (fun x hx=>?_) (fun k hk=>?_) (fun k k' hk hk'=>?_) (by omega)
    ·simp only[Bool.or_eq_true,beq_iff_eq] at hk
     rcases hk with hk | hk
     ·exact h1 k hk
     ·subst hk;exact hcj
    ·rw[htake,List.mem_append] at hx
     rcases hx with hx | hx
     ·exact h2 x (sub x hx)
     ·obtain ⟨k,_,hk,rfl⟩:=ZcE.1 hx
      exact ⟨k,rfl,.step hcj hk⟩
    ·rw[htake];exact keep k (h3 k hk)
    ·rw[htake]
     simp only[Bool.or_eq_true,beq_iff_eq] at hk
     rcases hk with hk | hk
     ·exact keep k' (h4 k k' hk hk')
     ·subst hk
      exact .inr (List.mem_append_right _ (hnl k' hk'))
 have hkn:ZfM t i=true:=hk
 unfold Zt6
 rw[Ze,if_pos hkn]
 have hnew:Zz (Int.ofNat (List.length t))=((n:Int),[]):=by
  rw[hn]
  unfold Zz
  simp
  omega
 rw[hnew]
 refine loop _ (fun _=>false) ((n:Int),[]) (Zad t i) _ (Nat.le_refl _) rfl (SetOK.new n) (fun j h=>by cases h) (fun x hx=>?_) (fun j hj=>.inr ?_) (fun k j h=>by cases h) (by have:=ZFt t i;omega)
 ·rw[List.take_length] at hx
  obtain ⟨k,_,hk,rfl⟩:=ZcE.1 hx
  exact ⟨k,rfl,.start hk⟩
 ·rw[List.take_length];exact ZcE.2 ⟨j,ZeT hj,hj,rfl⟩
end Go.Ev
end

section
open Go Go.Ev
namespace Go.Ev
noncomputable section
noncomputable def Zw2:Run:=entG Zih ZpR (fun a=>Zjh a.1 a.2.1) (fun a=>ZbI a.1 a.2.1)
theorem ZAo:EntOK Go.Proofs.Tryz.prog 52 Zw2:=ZH (tb:=Zsx) (c:=ZpT) ZLT (by kernel_rfl) (by kernel_rfl) (by kernel_rfl) (fun a=>by kernel_rfl) fun ⟨t,i,_⟩ hk=>Zm (c:=ZpT) (K:=fun v=>(ZpR v,tps (toForms Zih (t,i,())))) (S:=ZhF t i) (by kernel_rfl) (ZK4 t i) (ZMi t i) (ZNl t i hk)
end
end Go.Ev
end

section
open Go Go.Ev
namespace Go.Ev
noncomputable section
def Zmi:PSig:=[.dat false (.int .i64),.obj 75 [(.d (.sl Zb))],.obj 3 [(.d (.int .i64))],.ptr 79 107 [(.d (.int .i64)),(.m (.int .i64) (.int .u64))],.obj 29 [(.w 3 (.int .i64))],.obj 3 [(.d (.int .i64))],.ptr 79 107 [(.d (.int .i64)),(.m (.int .i64) (.int .u64))]]
noncomputable def Zo9:Tbl:=[(79,ZyO),(53,Zc7)]
theorem ZDv:∀p∈Zo9,EntOK Go.Proofs.Tryz.prog p.1 p.2:=Zg ZEH (Zg Zcs (Zt))
noncomputable def ZgH:Code:=Go.Proofs.Tryz.f78.body.getD .skip
def Zml:Tb:=[(1,⟨[0,1,2,3,4,5,6,10,11,12],[]⟩)]
inductive ZgU where | l1 (h:Int) (h1:Int) (h2:List Int) (h3:List (Int×Int)) (h4:Int) (h5:List (Int×Int))
def ZgV (x:Int) (l:List (El Zb)) (own:Int) (come:Int×List (Int×Int)) (open_:List Int) (a:Int) (back:Int×List (Int×Int)):ZgU→JT ZgU ((List (El Zb))×Int×(Int×List (Int×Int))×(List Int)×Int×Int×List (Int×Int)) |.l1 h h1 h2 h3 h4 h5=>.br (decide (h < (Int.ofNat (List.length l)))) (.br ((decide ((0:Int)≤h))&&(decide (h < (Int.ofNat (List.length l))))) (.br ((decide ((0:Int)≤x))&&(decide (x < (Int.ofNat (List.length l))))) (.br (! (Zgp (List.getD l (Int.toNat x) (dflt Zb)) (List.getD l (Int.toNat h) (dflt Zb)))) (.jmp (.l1 (IntKind.i64.wrap (h+(1:Int))) h1 h2 h3 h4 h5)) (.br ((List.getD l (Int.toNat h) (dflt Zb)).1 !=own) (.br (Zr (h1,h3) h).1 (.br (Nat.ble (((List.length h2)+1)*8) limit) (.jmp (.l1 (IntKind.i64.wrap (h+(1:Int))) (Zr (h1,h3) h).2.1 (h2++[h]) (Zr (h1,h3) h).2.2 h4 h5)) (.no)) (.jmp (.l1 (IntKind.i64.wrap (h+(1:Int))) (Zr (h1,h3) h).2.1 h2 (Zr (h1,h3) h).2.2 h4 h5))) (.br (x !=a) (.jmp (.l1 (IntKind.i64.wrap (h+(1:Int))) h1 h2 h3 (Zr (h4,h5) h).2.1 (Zr (h4,h5) h).2.2)) (.jmp (.l1 (IntKind.i64.wrap (h+(1:Int))) h1 h2 h3 h4 h5))))) (.no)) (.no)) (.leaf (l,(own,((h1,h3),(h2,(a,(h4,h5)))))))
def ZsE (x:Int) (l:List (El Zb)) (own:Int) (come:Int×List (Int×Int)) (open_:List Int) (a:Int) (back:Int×List (Int×Int)):JT ZgU ((List (El Zb))×Int×(Int×List (Int×Int))×(List Int)×Int×Int×List (Int×Int)):=.jmp (.l1 (0:Int) come.1 open_ come.2 back.1 back.2)
def ZjP:(List (El Zb))×Int×(Int×List (Int×Int))×(List Int)×Int×Int×List (Int×Int)→Ans:=fun (r:(List (El Zb))×Int×(Int×List (Int×Int))×(List Int)×Int×Int×List (Int×Int))=>(.tu [],[.top,.bx 75 [.d (.sl Zb) r.1],.bx 3 [.d (.int .i64) r.2.1],.bx 79 [.bx 107 [.d (.int .i64) r.2.2.1.1,.mv (.int .i64) (.int .u64) r.2.2.1.2]],.bx 29 [.rw 3 (.int .i64) r.2.2.2.1],.bx 3 [.d (.int .i64) r.2.2.2.2.1],.bx 79 [.bx 107 [.d (.int .i64) r.2.2.2.2.2.1,.mv (.int .i64) (.int .u64) r.2.2.2.2.2.2]]])
def Zc0 (x:Int) (l:List (El Zb)) (own:Int) (come:Int×List (Int×Int)) (open_:List Int) (a:Int) (back:Int×List (Int×Int)):ZgU→Nat×St |.l1 h h1 h2 h3 h4 h5=>(1,⟨mkTm 42 [(0,.d (.int .i64) x),(1,.pt 2 0 0),(2,.pt 3 0 0),(3,.pt 4 0 0),(4,.pt 5 0 0),(5,.pt 6 0 0),(6,.pt 7 0 0),(10,.d (.sl Zb) l),(11,.d (.int .i64) (Int.ofNat (List.length l))),(12,.d (.int .i64) h)],[(2,0,.box 75 [.d (.sl Zb) l] (some 1)),(3,0,.box 3 [.d (.int .i64) own] (some 2)),(4,0,.box 79 [.pt 4097 0 0] (some 3)),(5,0,.box 29 [.own 5121 0 none] (some 4)),(6,0,.box 3 [.d (.int .i64) a] (some 5)),(7,0,.box 79 [.pt 7169 0 0] (some 6)),(4097,0,.box 107 [.d (.int .i64) h1,.mp 4195330 0] none),(5121,0,.row 3 (.int .i64) h2 false),(7169,0,.box 107 [.d (.int .i64) h4,.mp 7341058 0] none),(4195330,0,.map (.int .i64) (.int .u64) h3),(7341058,0,.map (.int .i64) (.int .u64) h5)]⟩)
theorem ZCf (x:Int) (l:List (El Zb)) (own:Int) (come:Int×List (Int×Int)) (open_:List Int) (a:Int) (back:Int×List (Int×Int)) (L:Lt):entryA Go.Proofs.Tryz.prog (clOf Zo9) Zml Go.Proofs.Tryz.f78 ZgH L (toPs Zmi (x,l,own,come,open_,a,back,()))=(ZsE x l own come open_ a back).run (fun v=>some (ZjP v)) fun j=>L (Zc0 x l own come open_ a back j).1 (Zc0 x l own come open_ a back j).2:=by kernel_rfl
theorem ZCQ (x:Int) (l:List (El Zb)) (own:Int) (come:Int×List (Int×Int)) (open_:List Int) (a:Int) (back:Int×List (Int×Int)):∀(L:Lt) (j:ZgU),procOf (procsF Go.Proofs.Tryz.prog (clOf Zo9) Zml Go.Proofs.Tryz.f78 ZgH (toPs Zmi (x,l,own,come,open_,a,back,()))) (Zc0 x l own come open_ a back j).1 L (Zc0 x l own come open_ a back j).2=(ZgV x l own come open_ a back j).run (fun v=>some (ZjP v)) fun j=>L (Zc0 x l own come open_ a back j).1 (Zc0 x l own come open_ a back j).2 | L,.l1 h h1 h2 h3 h4 h5=>by kernel_rfl
end
end Go.Ev
end

section
open Go
namespace Go.Ev
abbrev SetT:=Int×List (Int×Int)
def meet1 (l : List Acc) (x own a : Int) (h : Nat) (s : SetT × List Int × SetT) : SetT × List Int × SetT :=
  if clB l x.toNat h = true then
    (if thA l h ≠ own then ((putS s.1 (h : Int)).2, (if (putS s.1 (h : Int)).1 = true then s.2.1 ++ [(h : Int)] else s.2.1), s.2.2)
     else if x ≠ a then (s.1, s.2.1, (putS s.2.2 (h : Int)).2) else s)
  else s
def meetF (l:List Acc) (x own a:Int):List Nat→SetT×List Int×SetT→SetT×List Int×SetT
 | [],s=>s
 | h :: r,s=>meetF l x own a r (meet1 l x own a h s)
def ZX (x:Int) (l:List (El Zb)) (own:Int) (come:SetT) (open_:List Int) (a:Int) (back:SetT):(List (El Zb))×Int×SetT×(List Int)×Int×SetT:=
 (l,own,(meetF l x own a (List.range' 0 l.length) (come,open_,back)).1,(meetF l x own a (List.range' 0 l.length) (come,open_,back)).2.1,a,(meetF l x own a (List.range' 0 l.length) (come,open_,back)).2.2)
def ZgO (x:Int) (l:List (El Zb)) (own:Int) (come:SetT) (open_:List Int) (a:Int) (back:SetT):Bool:=decide (0≤x∧x < (l.length:Int)∧l.length < 1099511627776∧open_.length < 1099511627776)
theorem ZEj (x:Int) (l:List (El Zb)) (own:Int) (come:SetT) (open_:List Int) (a:Int) (back:SetT) (hk:ZgO x l own come open_ a back=true):Goes (ZgV x l own come open_ a back) (ZsE x l own come open_ a back) (ZX x l own come open_ a back):=by
 obtain ⟨x0,x1,hN,hO⟩:=of_decide_eq_true hk
 obtain ⟨T,hT⟩:∃T,T=ZgV x l own come open_ a back:=⟨_,rfl⟩
 rw[←hT]
 have loop:∀h,h≤l.length→∀s:SetT×List Int×SetT,s.2.1.length≤open_.length+h→Goes T (.jmp (.l1 (h:Int) s.1.1 s.2.1 s.1.2 s.2.2.1 s.2.2.2)) (l,own,(meetF l x own a (List.range' h (l.length - h)) s).1,(meetF l x own a (List.range' h (l.length - h)) s).2.1,a,(meetF l x own a (List.range' h (l.length - h)) s).2.2):=by
  refine down ?_ fun h hh ih=>?_
  ·intro s hs
   rw[Zh,hT,ZgV,←hT,Ze,if_neg (by rw[Zw (Nat.lt_irrefl _)];decide),Nat.sub_self]
   exact .leaf
  ·intro s hs
   have hx1:decide ((0:Int)≤x)=true:=decide_eq_true x0
   have hx2:decide (x < Int.ofNat l.length)=true:=decide_eq_true x1
   rw[show l.length - h=(l.length - (h+1))+1 by omega,List.range'_succ,meetF]
   have ec:Zgp (List.getD l x.toNat (dflt Zb)) (List.getD l h (dflt Zb))=clB l x.toNat h:=rfl
   have et:(List.getD l h (dflt Zb)).1=thA l h:=rfl
   have hp:Zr (s.1.1,s.1.2) (h:Int)=putS s.1 (h:Int):=rfl
   have hp2:Zr (s.2.2.1,s.2.2.2) (h:Int)=putS s.2.2 (h:Int):=rfl
   have b1:Nat.ble ((s.2.1.length+1)*8) limit=true:=Nat.ble_eq_true_of_le (by unfold limit;omega)
   have key:=ih (meet1 l x own a h s)
   rw[Zh,hT,ZgV,←hT]
   simp only[Ze,ZK hh,nng,hx1,hx2,Bool.and_self,if_true,Int.toNat_natCast,ec,et,hp,hp2,b1,Zo (k:=h) (by omega)]
   by_cases c1:clB l x.toNat h=true
   ·rw[if_neg (by rw[c1];decide)]
    by_cases c2:thA l h=own
    ·rw[if_neg (by simp[c2])]
     by_cases c3:x=a
     ·have hm:meet1 l x own a h s=s:=by unfold meet1;rw[if_pos c1,if_neg (by simp[c2]),if_neg (by simp[c3])]
      rw[hm] at key ⊢
      rw[if_neg (by simp[c3])]
      exact key (by omega)
     ·have hm:meet1 l x own a h s=(s.1,s.2.1,(putS s.2.2 (h:Int)).2):=by unfold meet1;rw[if_pos c1,if_neg (by simp[c2]),if_pos c3]
      rw[hm] at key ⊢
      rw[if_pos (by simpa using c3)]
      exact key (by show s.2.1.length≤_;omega)
    ·rw[if_pos (by simpa using c2)]
     by_cases c4:(putS s.1 (h:Int)).1=true
     ·have hm:meet1 l x own a h s=((putS s.1 (h:Int)).2,s.2.1++[(h:Int)],s.2.2):=by unfold meet1;rw[if_pos c1,if_pos c2,if_pos c4]
      rw[hm] at key ⊢
      rw[if_pos c4]
      exact key (by show (s.2.1++[(h:Int)]).length≤_;simp;omega)
     ·have hm:meet1 l x own a h s=((putS s.1 (h:Int)).2,s.2.1,s.2.2):=by unfold meet1;rw[if_pos c1,if_pos c2,if_neg c4]
      rw[hm] at key ⊢
      rw[if_neg c4]
      exact key (by show s.2.1.length≤_;omega)
   ·have hm:meet1 l x own a h s=s:=by unfold meet1;rw[if_neg c1]
    rw[hm] at key ⊢
    rw[if_pos (by simpa using c1)]
    exact key (by omega)
 exact loop 0 (Nat.zero_le _) (come,open_,back) (by simp)
end Go.Ev
end

section
open Go Go.Ev
namespace Go.Ev
noncomputable section
noncomputable def Zvv:Run:=entO Zmi ZjP (fun a=>ZgO a.1 a.2.1 a.2.2.1 a.2.2.2.1 a.2.2.2.2.1 a.2.2.2.2.2.1 a.2.2.2.2.2.2.1) (fun a=>ZX a.1 a.2.1 a.2.2.1 a.2.2.2.1 a.2.2.2.2.1 a.2.2.2.2.2.1 a.2.2.2.2.2.2.1)
theorem ZBG:EntOK Go.Proofs.Tryz.prog 78 Zvv:=ZNd (tb:=Zml) (c:=ZgH) (ZqM (ZjR (fn:=Go.Proofs.Tryz.f78) (c:=ZgH) (by kernel_rfl) (by kernel_rfl) (by kernel_rfl))) ZDv (by kernel_rfl) (by kernel_rfl) (fun a=>by kernel_rfl) fun ⟨x,l,own,come,open_,a,back,_⟩ hk=>Zm (c:=ZgH) (K:=ZjP) (S:=Zc0 x l own come open_ a back) (by kernel_rfl) (ZCf x l own come open_ a back) (ZCQ x l own come open_ a back) (ZEj x l own come open_ a back hk)
end
end Go.Ev
end

section
open Go Go.Ev
namespace Go.Ev
noncomputable section
def Zdx:Sig:=[(true,Zc),(false,(.sl Zb)),(false,(.int .i64))]
noncomputable def ZoL:Tbl:=[(51,ZlY),(52,Zw2),(53,Zc7),(54,ZgP)]
theorem ZBI:∀p∈ZoL,EntOK Go.Proofs.Tryz.prog p.1 p.2:=Zg Zmg (Zg ZAo (Zg Zcs (Zg Ze0 (Zt))))
noncomputable def ZjO:Code:=Go.Proofs.Tryz.f80.body.getD .skip
def Zl8:Tb:=[(6,⟨[1,2,7,9,32,33,34,58,64,69,70,72,76],[]⟩),(14,⟨[2,7,9,12,42,43,44],[(13,58)]⟩)]
inductive ZgW where | l6 (h:Int) (x:Int) (x1:Int) (x2:Int) (x3:Int) (x4:Bool) (x5:Bool) (from_:Int) (h1:List Int) (from_1:List (Int×Int)) (h2:Int) | l14 (x:Int) (x1:Int) (x2:Int) (x3:Int) (x4:Bool) (x5:Bool) (from_:Int) (from_1:List (Int×Int)) (h:Int) (out:List Int)
def Zbn (p:El Zc) (l:List (El Zb)) (c:Int):ZgW→JT ZgW (List Int) |.l6 h x x1 x2 x3 x4 x5 from_ h1 from_1 h2=>.br (decide (h2 < h)) (.br ((decide ((0:Int)≤h2))&&(decide (h2 < (Int.ofNat (List.length h1))))) (.jmp (.l6 h x x1 x2 x3 x4 x5 (Zr (from_,from_1) (List.getD h1 (Int.toNat h2) (dflt (.int .i64)))).2.1 h1 (Zr (from_,from_1) (List.getD h1 (Int.toNat h2) (dflt (.int .i64)))).2.2 (IntKind.i64.wrap (h2+(1:Int))))) (.no)) (.jmp (.l14 x x1 x2 x3 x4 x5 from_ from_1 (0:Int) [])) |.l14 x x1 x2 x3 x4 x5 from_ from_1 h out=>.br (decide (h < (Int.ofNat (List.length l)))) (.br ((decide ((0:Int)≤h))&&(decide (h < (Int.ofNat (List.length l))))) (.br ((List.getD l (Int.toNat h) (dflt Zb)).1==x) (.br (h==c) (.br (Nat.ble (((List.length out)+1)*8) limit) (.jmp (.l14 x x1 x2 x3 x4 x5 from_ from_1 (IntKind.i64.wrap (h+(1:Int))) (out++[h]))) (.no)) (.br ((List.getD l (Int.toNat h) (dflt Zb)).2.1==x1) (.br (decide ((List.getD l (Int.toNat h) (dflt Zb)).2.2.1 > x2)) (.br (Nat.ble (((List.length out)+1)*8) limit) (.jmp (.l14 x x1 x2 x3 x4 x5 from_ from_1 (IntKind.i64.wrap (h+(1:Int))) (out++[h]))) (.no)) (.br (Zq (from_,from_1) (List.getD l (Int.toNat h) (dflt Zb)).2.1).1 (.br (Nat.ble (((List.length out)+1)*8) limit) (.jmp (.l14 x x1 x2 x3 x4 x5 (Zq (from_,from_1) (List.getD l (Int.toNat h) (dflt Zb)).2.1).2.1 (Zq (from_,from_1) (List.getD l (Int.toNat h) (dflt Zb)).2.1).2.2 (IntKind.i64.wrap (h+(1:Int))) (out++[h]))) (.no)) (.jmp (.l14 x x1 x2 x3 x4 x5 (Zq (from_,from_1) (List.getD l (Int.toNat h) (dflt Zb)).2.1).2.1 (Zq (from_,from_1) (List.getD l (Int.toNat h) (dflt Zb)).2.1).2.2 (IntKind.i64.wrap (h+(1:Int))) out)))) (.br (Zq (from_,from_1) (List.getD l (Int.toNat h) (dflt Zb)).2.1).1 (.br (Nat.ble (((List.length out)+1)*8) limit) (.jmp (.l14 x x1 x2 x3 x4 x5 (Zq (from_,from_1) (List.getD l (Int.toNat h) (dflt Zb)).2.1).2.1 (Zq (from_,from_1) (List.getD l (Int.toNat h) (dflt Zb)).2.1).2.2 (IntKind.i64.wrap (h+(1:Int))) (out++[h]))) (.no)) (.jmp (.l14 x x1 x2 x3 x4 x5 (Zq (from_,from_1) (List.getD l (Int.toNat h) (dflt Zb)).2.1).2.1 (Zq (from_,from_1) (List.getD l (Int.toNat h) (dflt Zb)).2.1).2.2 (IntKind.i64.wrap (h+(1:Int))) out))))) (.jmp (.l14 x x1 x2 x3 x4 x5 from_ from_1 (IntKind.i64.wrap (h+(1:Int))) out))) (.no)) (.leaf out)
def ZmZ (p:El Zc) (l:List (El Zb)) (c:Int):JT ZgW (List Int):=.br ((decide ((0:Int)≤c))&&(decide (c < (Int.ofNat (List.length l))))) (.br ((decide ((0:Int)≤(List.getD l (Int.toNat c) (dflt Zb)).1))&&(decide ((List.getD l (Int.toNat c) (dflt Zb)).1 < (Int.ofNat (List.length p.2))))) (.br (Zjh (List.getD p.2 (Int.toNat (List.getD l (Int.toNat c) (dflt Zb)).1) (dflt (.sl Za))) (List.getD l (Int.toNat c) (dflt Zb)).2.1) (.jmp (.l6 (Int.ofNat (List.length (ZbI (List.getD p.2 (Int.toNat (List.getD l (Int.toNat c) (dflt Zb)).1) (dflt (.sl Za))) (List.getD l (Int.toNat c) (dflt Zb)).2.1))) (List.getD l (Int.toNat c) (dflt Zb)).1 (List.getD l (Int.toNat c) (dflt Zb)).2.1 (List.getD l (Int.toNat c) (dflt Zb)).2.2.1 (List.getD l (Int.toNat c) (dflt Zb)).2.2.2.1 (List.getD l (Int.toNat c) (dflt Zb)).2.2.2.2.1 (List.getD l (Int.toNat c) (dflt Zb)).2.2.2.2.2 (Zz (Int.ofNat (List.length (List.getD p.2 (Int.toNat (List.getD l (Int.toNat c) (dflt Zb)).1) (dflt (.sl Za)))))).1 (ZbI (List.getD p.2 (Int.toNat (List.getD l (Int.toNat c) (dflt Zb)).1) (dflt (.sl Za))) (List.getD l (Int.toNat c) (dflt Zb)).2.1) (Zz (Int.ofNat (List.length (List.getD p.2 (Int.toNat (List.getD l (Int.toNat c) (dflt Zb)).1) (dflt (.sl Za)))))).2 (0:Int))) (.no)) (.no)) (.no)
def Zj2:List Int→AV:=fun (r:List Int)=>.rw 3 (.int .i64) r
def Zdg (p:El Zc) (l:List (El Zb)) (c:Int):ZgW→Nat×St |.l6 h x x1 x2 x3 x4 x5 from_ h1 from_1 h2=>(6,⟨mkTm 85 [(1,.d (.sl Zb) l),(2,.d (.int .i64) c),(7,.pt 8 0 0),(9,.pt 10 0 0),(32,.own 33 0 none),(33,.d (.int .i64) h),(34,.d (.int .i64) h2)],[(8,0,.box 83 [.d (.int .i64) x,.d (.int .i64) x1,.d (.int .i64) x2,.d (.int .i64) x3,.d .bool x4,.d .bool x5] none),(10,0,.box 107 [.d (.int .i64) from_,.mp 10242 0] none),(33,0,.row 3 (.int .i64) h1 false),(10242,0,.map (.int .i64) (.int .u64) from_1)]⟩) |.l14 x x1 x2 x3 x4 x5 from_ from_1 h out=>(14,⟨mkTm 85 [(2,.d (.int .i64) c),(7,.pt 8 0 0),(9,.pt 10 0 0),(12,.own 13 0 none),(42,.d (.sl Zb) l),(43,.d (.int .i64) (Int.ofNat (List.length l))),(44,.d (.int .i64) h)],[(8,0,.box 83 [.d (.int .i64) x,.d (.int .i64) x1,.d (.int .i64) x2,.d (.int .i64) x3,.d .bool x4,.d .bool x5] none),(10,0,.box 107 [.d (.int .i64) from_,.mp 10242 0] none),(13,0,.row 3 (.int .i64) out false),(10242,0,.map (.int .i64) (.int .u64) from_1)]⟩)
theorem ZCB (p:El Zc) (l:List (El Zb)) (c:Int) (L:Lt):entryA Go.Proofs.Tryz.prog (clOf ZoL) Zl8 Go.Proofs.Tryz.f80 ZjO L (toForms Zdx (p,l,c,()))=(ZmZ p l c).run (fun v=>some (Zj2 v,tps (toForms Zdx (p,l,c,())))) fun j=>L (Zdg p l c j).1 (Zdg p l c j).2:=by kernel_rfl
theorem ZCe (p:El Zc) (l:List (El Zb)) (c:Int):∀(L:Lt) (j:ZgW),procOf (procsF Go.Proofs.Tryz.prog (clOf ZoL) Zl8 Go.Proofs.Tryz.f80 ZjO (toForms Zdx (p,l,c,()))) (Zdg p l c j).1 L (Zdg p l c j).2=(Zbn p l c j).run (fun v=>some (Zj2 v,tps (toForms Zdx (p,l,c,())))) fun j=>L (Zdg p l c j).1 (Zdg p l c j).2 | L,.l6 h x x1 x2 x3 x4 x5 from_ h1 from_1 h2=>by kernel_rfl | L,.l14 x x1 x2 x3 x4 x5 from_ from_1 h out=>by kernel_rfl
end
end Go.Ev
end

section
open Go
namespace Go.Ev
noncomputable def Zcj (p:El Zc) (l:List (El Zb)) (c:Int):List Int:=listOf l.length (behB p l c.toNat)
def ZeD (p:El Zc) (l:List (El Zb)) (c:Int):Bool:=decide (0≤c∧c < (l.length:Int)∧l.length < 1099511627776)&&(decide (0≤thA l c.toNat∧thA l c.toNat < (p.2.length:Int))&&flowOK (thrOf p l c.toNat))
theorem ZDX (p:El Zc) (l:List (El Zb)) (c:Int) (hk:ZeD p l c=true):Goes (Zbn p l c) (ZmZ p l c) (Zcj p l c):=by
 unfold ZeD at hk
 simp only[Bool.and_eq_true,decide_eq_true_eq] at hk
 obtain ⟨⟨c0,c1,hN⟩,⟨t0,t1⟩,hf⟩:=hk
 obtain ⟨c,rfl⟩:=Int.eq_ofNat_of_zero_le c0
 rw[Int.toNat_natCast] at t0 t1 hf
 have hc:c < l.length:=by omega
 have htl:=Zbx hf
 obtain ⟨t,ht⟩:∃t,thrOf p l c=t:=⟨_,rfl⟩
 have hg:List.getD p.2 (Int.toNat (List.getD l c (dflt Zb)).1) (dflt (.sl Za))=t:=ht
 rw[ht] at hf htl
 have kf:Zjh t (List.getD l c (dflt Zb)).2.1=true:=hf
 obtain ⟨L,hL⟩:∃L,ZbI t (List.getD l c (dflt Zb)).2.1=L:=⟨_,rfl⟩
 have hLl:L.length≤t.length:=by rw[←hL];unfold ZbI;rw[ZiO];exact ZfC
 have hmem:∀x,x∈L↔∃i:Nat,i < t.length∧fromB t (inA l c) i=true∧x=(i:Int):=fun x=>by rw[←hL];exact ZcE
 unfold ZmZ Zcj
 rw[Ze,if_pos (Zas hc),Ze,Int.toNat_natCast]
 have hth:(decide ((0:Int)≤(List.getD l c (dflt Zb)).1)&&decide ((List.getD l c (dflt Zb)).1 < Int.ofNat p.2.length))=true:=by
  rw[Bool.and_eq_true,decide_eq_true_eq,decide_eq_true_eq];exact ⟨t0,t1⟩
 rw[if_pos hth,Ze,hg,if_pos kf,hL]
 have hnew:Zz (Int.ofNat (List.length t))=(((t.length:Nat):Int),[]):=by
  unfold Zz
  simp
  omega
 rw[hnew]
 have second:∀(s:Int×List (Int×Int)),SetOK s t.length (fromB t (inA l c))→∀h,h≤l.length→∀out:List Int,out.length≤h→
   Goes (Zbn p l (c:Int)) (.jmp (.l14 (List.getD l c (dflt Zb)).1 (List.getD l c (dflt Zb)).2.1 (List.getD l c (dflt Zb)).2.2.1 (List.getD l c (dflt Zb)).2.2.2.1 (List.getD l c (dflt Zb)).2.2.2.2.1 (List.getD l c (dflt Zb)).2.2.2.2.2 s.1 s.2 (h:Int) out)) (out++listR l.length (behB p l c) h):=by
  intro s hs
  refine down ?_ fun h hh ih=>?_
  ·intro out ho
   rw[Zh,Zbn,Ze,if_neg (by rw[Zw (Nat.lt_irrefl _)];decide),ZQx,List.append_nil]
   exact .leaf
  ·intro out ho
   have b1:Nat.ble ((out.length+1)*8) limit=true:=Nat.ble_eq_true_of_le (by unfold limit;omega)
   have hhas:Zq (s.1,s.2) (inA l h)=(decide (0≤inA l h)&&fromB t (inA l c) (inA l h).toNat,s):=by
    show (hasS s (inA l h),s)=_
    rw[hs.has (by omega)]
   have add:behB p l c h=true→Goes (Zbn p l (c:Int)) (.jmp (.l14 (List.getD l c (dflt Zb)).1 (List.getD l c (dflt Zb)).2.1 (List.getD l c (dflt Zb)).2.2.1 (List.getD l c (dflt Zb)).2.2.2.1 (List.getD l c (dflt Zb)).2.2.2.2.1 (List.getD l c (dflt Zb)).2.2.2.2.2 s.1 s.2 ((h+1:Nat):Int) (out++[(h:Int)]))) (out++listR l.length (behB p l c) h):=fun hb=>by
    rw[ZFp hh,if_pos hb]
    have:=ih (out++[(h:Int)]) (by simp;omega)
    rwa[List.append_assoc] at this
   have skip:behB p l c h=false→Goes (Zbn p l (c:Int)) (.jmp (.l14 (List.getD l c (dflt Zb)).1 (List.getD l c (dflt Zb)).2.1 (List.getD l c (dflt Zb)).2.2.1 (List.getD l c (dflt Zb)).2.2.2.1 (List.getD l c (dflt Zb)).2.2.2.2.1 (List.getD l c (dflt Zb)).2.2.2.2.2 s.1 s.2 ((h+1:Nat):Int) out)) (out++listR l.length (behB p l c) h):=fun hb=>by
    rw[ZFp hh,hb,if_neg (by decide)]
    exact ih out (by omega)
   have e1:(List.getD l h (dflt Zb)).1=thA l h:=rfl
   have e2:(List.getD l h (dflt Zb)).2.1=inA l h:=rfl
   have e3:(List.getD l h (dflt Zb)).2.2.1=paA l h:=rfl
   have f1:(List.getD l c (dflt Zb)).1=thA l c:=rfl
   have f2:(List.getD l c (dflt Zb)).2.1=inA l c:=rfl
   have f3:(List.getD l c (dflt Zb)).2.2.1=paA l c:=rfl
   have hbe:behB p l c h=(thA l h==thA l c&&(h==c || ((inA l h==inA l c&&decide (paA l h > paA l c)) || (decide (0≤inA l h)&&fromB t (inA l c) (inA l h).toNat)))):=by
    unfold behB
    rw[decide_eq_true hh,Bool.true_and,ht]
   have hhc:((h:Int)==(c:Int))=(h==c):=by
    by_cases e:h=c
    ·subst e;simp
    ·have:(h==c)=false:=by simpa using e
     rw[this];simp;omega
   rw[Zh,Zbn]
   simp only[Ze,ZK hh,nng,Bool.and_self,if_true,Int.toNat_natCast,b1,Zo (k:=h) (by omega),e1,e2,e3,hhas,hhc]
   rw[f1,f2,f3] at*
   generalize hq:(decide (0≤inA l h)&&fromB t (inA l c) (inA l h).toNat)=q at*
   by_cases c1:(thA l h==thA l c)=true
   ·rw[if_pos c1]
    rw[c1,Bool.true_and] at hbe
    by_cases c2:(h==c)=true
    ·rw[if_pos c2]
     rw[c2,Bool.true_or] at hbe
     exact add hbe
    ·rw[if_neg c2]
     rw[Bool.eq_false_iff.2 c2,Bool.false_or] at hbe
     by_cases c3:(inA l h==inA l c)=true
     ·rw[if_pos c3]
      rw[c3,Bool.true_and] at hbe
      by_cases c4:decide (paA l h > paA l c)=true
      ·rw[if_pos c4]
       rw[c4,Bool.true_or] at hbe
       exact add hbe
      ·rw[if_neg c4]
       rw[Bool.eq_false_iff.2 c4,Bool.false_or] at hbe
       cases q with
       | true=>rw[if_pos rfl];exact add hbe
       | false=>rw[if_neg (by decide)];exact skip hbe
     ·rw[if_neg c3]
      rw[Bool.eq_false_iff.2 c3,Bool.false_and,Bool.false_or] at hbe
      cases q with
      | true=>rw[if_pos rfl];exact add hbe
      | false=>rw[if_neg (by decide)];exact skip hbe
   ·rw[if_neg c1]
    rw[Bool.eq_false_iff.2 c1,Bool.false_and] at hbe
    exact skip hbe
 have first:∀h,h≤L.length→∀(s:Int×List (Int×Int)),SetOK s t.length (fun j=>(L.take h).contains (j:Int))→
   Goes (Zbn p l (c:Int)) (.jmp (.l6 (Int.ofNat L.length) (List.getD l c (dflt Zb)).1 (List.getD l c (dflt Zb)).2.1 (List.getD l c (dflt Zb)).2.2.1 (List.getD l c (dflt Zb)).2.2.2.1 (List.getD l c (dflt Zb)).2.2.2.2.1 (List.getD l c (dflt Zb)).2.2.2.2.2 s.1 L s.2 (h:Int))) (listOf l.length (behB p l c)):=by
  refine down ?_ fun h hh ih=>?_
  ·intro s hs
   rw[Zh,Zbn,Ze,if_neg (by simp)]
   have:=second s (hs.congr' fun j=>by
    rw[List.take_length,Bool.eq_iff_iff,List.contains_iff_mem,hmem]
    constructor
    ·rintro ⟨i,_,h1,h2⟩;have:j=i:=by omega
     subst this;exact h1
    ·intro h;exact ⟨j,ZRz h,h,rfl⟩) 0 (Nat.zero_le _) [] (Nat.le_refl _)
   rwa[List.nil_append,ZPj] at this
  ·intro s hs
   obtain ⟨i,hi,_,hie⟩:=(hmem L[h]).1 (List.getElem_mem hh)
   obtain ⟨_,p2⟩:=hs.putO (by omega) hi
   have hp:Zr (s.1,s.2) (i:Int)=putS s (i:Int):=rfl
   rw[Zh,Zbn,Ze,if_pos (ZK hh),Ze,if_pos (Zas hh),Int.toNat_natCast,ZG hh,hie,hp,Zo (by omega)]
   refine ih _ (p2.congr' fun j=>?_)
   rw[List.take_succ_eq_append_getElem hh,Bool.eq_iff_iff,Bool.or_eq_true,List.contains_iff_mem,List.contains_iff_mem,List.mem_append,List.mem_singleton,hie,beq_iff_eq]
   exact or_congr Iff.rfl (by omega)
 exact first 0 (Nat.zero_le _) (((t.length:Nat):Int),[]) ((SetOK.new t.length).congr' fun j=>by simp)
end Go.Ev
end

section
open Go Go.Ev
namespace Go.Ev
noncomputable section
noncomputable def ZvZ:Run:=entG Zdx Zj2 (fun a=>ZeD a.1 a.2.1 a.2.2.1) (fun a=>Zcj a.1 a.2.1 a.2.2.1)
theorem ZDm:EntOK Go.Proofs.Tryz.prog 80 ZvZ:=ZH (tb:=Zl8) (c:=ZjO) ZBI (by kernel_rfl) (by kernel_rfl) (by kernel_rfl) (fun a=>by kernel_rfl) fun ⟨p,l,c,_⟩ hk=>Zm (c:=ZjO) (K:=fun v=>(Zj2 v,tps (toForms Zdx (p,l,c,())))) (S:=Zdg p l c) (by kernel_rfl) (ZCB p l c) (ZCe p l c) (ZDX p l c hk)
end
end Go.Ev
end

section
open Go Go.Ev
namespace Go.Ev
noncomputable section
def Zgr:Sig:=[(true,Zc),(false,(.int .i64))]
noncomputable def Zt2:Tbl:=[(49,ZyZ),(51,ZlY),(78,Zvv),(80,ZvZ),(53,Zc7),(76,Zit)]
theorem ZIG:∀p∈Zt2,EntOK Go.Proofs.Tryz.prog p.1 p.2:=Zg ZDA (Zg Zmg (Zg ZBG (Zg ZDm (Zg Zcs (Zg ZkS (Zt))))))
noncomputable def Zoe:Code:=Go.Proofs.Tryz.f55.body.getD .skip
def Zq6:Tb:=[(11,⟨[2,5,7,9,10,11],[]⟩),(17,⟨[2,5,7,9,10,11,54,55,56],[]⟩),(hintK,⟨[],[(1,58)]⟩)]
inductive Zkx where | l11 (l:List (El Zb)) (back:Int) (open_:List Int) (meet:Int) (meet1:Int) (back1:List (Int×Int)) (meet2:Int) (meet3:List (Int×Int)) (gone:Int) (gone1:List (Int×Int)) | l17 (h:Int) (l:List (El Zb)) (h1:List Int) (back:Int) (open_:List Int) (meet:Int) (meet1:Int) (back1:List (Int×Int)) (meet2:Int) (meet3:List (Int×Int)) (h2:Int) (gone:Int) (gone1:List (Int×Int))
def ZeZ (p:El Zc) (a:Int):Zkx→JT Zkx (List Int) |.l11 l back open_ meet meet1 back1 meet2 meet3 gone gone1=>.br (decide ((Int.ofNat (List.length open_)) > (0:Int))) (.br (decide ((0:Int) < (Int.ofNat (List.length open_)))) (.br (Nat.ble 1 (List.length open_)) (.br (ZeD p l (List.getD open_ 0 (dflt (.int .i64)))) (.jmp (.l17 (Int.ofNat (List.length (Zcj p l (List.getD open_ 0 (dflt (.int .i64)))))) l (Zcj p l (List.getD open_ 0 (dflt (.int .i64)))) back (List.drop 1 open_) meet meet1 back1 meet2 meet3 (0:Int) gone gone1)) (.no)) (.no)) (.no)) (.br (Zbu (back,back1)) (.leaf (ZbV (back,back1)).1) (.no)) |.l17 h l h1 back open_ meet meet1 back1 meet2 meet3 h2 gone gone1=>.br (decide (h2 < h)) (.br ((decide ((0:Int)≤h2))&&(decide (h2 < (Int.ofNat (List.length h1))))) (.br (Zr (gone,gone1) (List.getD h1 (Int.toNat h2) (dflt (.int .i64)))).1 (.br (ZgO (List.getD h1 (Int.toNat h2) (dflt (.int .i64))) l meet (meet2,meet3) open_ meet1 (back,back1)) (.jmp (.l17 h (ZX (List.getD h1 (Int.toNat h2) (dflt (.int .i64))) l meet (meet2,meet3) open_ meet1 (back,back1)).1 h1 (ZX (List.getD h1 (Int.toNat h2) (dflt (.int .i64))) l meet (meet2,meet3) open_ meet1 (back,back1)).2.2.2.2.2.1 (ZX (List.getD h1 (Int.toNat h2) (dflt (.int .i64))) l meet (meet2,meet3) open_ meet1 (back,back1)).2.2.2.1 (ZX (List.getD h1 (Int.toNat h2) (dflt (.int .i64))) l meet (meet2,meet3) open_ meet1 (back,back1)).2.1 (ZX (List.getD h1 (Int.toNat h2) (dflt (.int .i64))) l meet (meet2,meet3) open_ meet1 (back,back1)).2.2.2.2.1 (ZX (List.getD h1 (Int.toNat h2) (dflt (.int .i64))) l meet (meet2,meet3) open_ meet1 (back,back1)).2.2.2.2.2.2 (ZX (List.getD h1 (Int.toNat h2) (dflt (.int .i64))) l meet (meet2,meet3) open_ meet1 (back,back1)).2.2.1.1 (ZX (List.getD h1 (Int.toNat h2) (dflt (.int .i64))) l meet (meet2,meet3) open_ meet1 (back,back1)).2.2.1.2 (IntKind.i64.wrap (h2+(1:Int))) (Zr (gone,gone1) (List.getD h1 (Int.toNat h2) (dflt (.int .i64)))).2.1 (Zr (gone,gone1) (List.getD h1 (Int.toNat h2) (dflt (.int .i64)))).2.2)) (.no)) (.jmp (.l17 h l h1 back open_ meet meet1 back1 meet2 meet3 (IntKind.i64.wrap (h2+(1:Int))) (Zr (gone,gone1) (List.getD h1 (Int.toNat h2) (dflt (.int .i64)))).2.1 (Zr (gone,gone1) (List.getD h1 (Int.toNat h2) (dflt (.int .i64)))).2.2))) (.no)) (.jmp (.l11 l back open_ meet meet1 back1 meet2 meet3 gone gone1))
def ZpV (p:El Zc) (a:Int):JT Zkx (List Int):=.br (Zpx p) (.br (decide (a < (0:Int))) (.leaf []) (.br (decide (a≥(Int.ofNat (List.length (ZD p))))) (.leaf []) (.br ((decide ((0:Int)≤a))&&(decide (a < (Int.ofNat (List.length (ZD p)))))) (.br (ZgO a (ZD p) (List.getD (ZD p) (Int.toNat a) (dflt Zb)).1 (Zz (Int.ofNat (List.length (ZD p)))) [] a (Zz (Int.ofNat (List.length (ZD p))))) (.jmp (.l11 (ZX a (ZD p) (List.getD (ZD p) (Int.toNat a) (dflt Zb)).1 (Zz (Int.ofNat (List.length (ZD p)))) [] a (Zz (Int.ofNat (List.length (ZD p))))).1 (ZX a (ZD p) (List.getD (ZD p) (Int.toNat a) (dflt Zb)).1 (Zz (Int.ofNat (List.length (ZD p)))) [] a (Zz (Int.ofNat (List.length (ZD p))))).2.2.2.2.2.1 (ZX a (ZD p) (List.getD (ZD p) (Int.toNat a) (dflt Zb)).1 (Zz (Int.ofNat (List.length (ZD p)))) [] a (Zz (Int.ofNat (List.length (ZD p))))).2.2.2.1 (ZX a (ZD p) (List.getD (ZD p) (Int.toNat a) (dflt Zb)).1 (Zz (Int.ofNat (List.length (ZD p)))) [] a (Zz (Int.ofNat (List.length (ZD p))))).2.1 (ZX a (ZD p) (List.getD (ZD p) (Int.toNat a) (dflt Zb)).1 (Zz (Int.ofNat (List.length (ZD p)))) [] a (Zz (Int.ofNat (List.length (ZD p))))).2.2.2.2.1 (ZX a (ZD p) (List.getD (ZD p) (Int.toNat a) (dflt Zb)).1 (Zz (Int.ofNat (List.length (ZD p)))) [] a (Zz (Int.ofNat (List.length (ZD p))))).2.2.2.2.2.2 (ZX a (ZD p) (List.getD (ZD p) (Int.toNat a) (dflt Zb)).1 (Zz (Int.ofNat (List.length (ZD p)))) [] a (Zz (Int.ofNat (List.length (ZD p))))).2.2.1.1 (ZX a (ZD p) (List.getD (ZD p) (Int.toNat a) (dflt Zb)).1 (Zz (Int.ofNat (List.length (ZD p)))) [] a (Zz (Int.ofNat (List.length (ZD p))))).2.2.1.2 (Zz (Int.ofNat (List.length (ZD p)))).1 (Zz (Int.ofNat (List.length (ZD p)))).2)) (.no)) (.no)))) (.no)
def Znn:List Int→AV:=fun (r:List Int)=>.rw 3 (.int .i64) r
def ZeX (p:El Zc) (a:Int):Zkx→Nat×St |.l11 l back open_ meet meet1 back1 meet2 meet3 gone gone1=>(11,⟨mkTm 69 [(2,.pt 3 0 0),(5,.pt 6 0 0),(7,.pt 8 0 0),(9,.pt 10 0 0),(10,.pt 11 0 0),(11,.fn 78 [.pt 6 0 0,.pt 12290 0 0,.pt 12291 0 0,.pt 11 0 0,.pt 12293 0 0,.pt 8 0 0])],[(3,0,.box 26 [.d (.sl Zy) p.1,.d (.sl (.sl Za)) p.2] none),(6,0,.box 75 [.d (.sl Zb) l] none),(8,0,.box 79 [.pt 8193 0 0] none),(10,0,.box 107 [.d (.int .i64) gone,.mp 10242 0] none),(11,0,.box 29 [.own 11265 0 none] none),(8193,0,.box 107 [.d (.int .i64) back,.mp 8389634 0] none),(10242,0,.map (.int .i64) (.int .u64) gone1),(11265,0,.row 3 (.int .i64) open_ false),(12290,0,.box 3 [.d (.int .i64) meet] none),(12291,0,.box 79 [.pt 12585985 0 0] none),(12293,0,.box 3 [.d (.int .i64) meet1] none),(8389634,0,.map (.int .i64) (.int .u64) back1),(12585985,0,.box 107 [.d (.int .i64) meet2,.mp 12888048642 0] none),(12888048642,0,.map (.int .i64) (.int .u64) meet3)]⟩) |.l17 h l h1 back open_ meet meet1 back1 meet2 meet3 h2 gone gone1=>(17,⟨mkTm 69 [(2,.pt 3 0 0),(5,.pt 6 0 0),(7,.pt 8 0 0),(9,.pt 10 0 0),(10,.pt 11 0 0),(11,.fn 78 [.pt 6 0 0,.pt 12290 0 0,.pt 12291 0 0,.pt 11 0 0,.pt 12293 0 0,.pt 8 0 0]),(54,.own 55 0 none),(55,.d (.int .i64) h),(56,.d (.int .i64) h2)],[(3,0,.box 26 [.d (.sl Zy) p.1,.d (.sl (.sl Za)) p.2] none),(6,0,.box 75 [.d (.sl Zb) l] none),(8,0,.box 79 [.pt 8193 0 0] none),(10,0,.box 107 [.d (.int .i64) gone,.mp 10242 0] none),(11,0,.box 29 [.own 11265 0 none] none),(55,0,.row 3 (.int .i64) h1 false),(8193,0,.box 107 [.d (.int .i64) back,.mp 8389634 0] none),(10242,0,.map (.int .i64) (.int .u64) gone1),(11265,0,.row 3 (.int .i64) open_ false),(12290,0,.box 3 [.d (.int .i64) meet] none),(12291,0,.box 79 [.pt 12585985 0 0] none),(12293,0,.box 3 [.d (.int .i64) meet1] none),(8389634,0,.map (.int .i64) (.int .u64) back1),(12585985,0,.box 107 [.d (.int .i64) meet2,.mp 12888048642 0] none),(12888048642,0,.map (.int .i64) (.int .u64) meet3)]⟩)
theorem ZIn (p:El Zc) (a:Int) (L:Lt):entryA Go.Proofs.Tryz.prog (clOf Zt2) Zq6 Go.Proofs.Tryz.f55 Zoe L (toForms Zgr (p,a,()))=(ZpV p a).run (fun v=>some (Znn v,tps (toForms Zgr (p,a,())))) fun j=>L (ZeX p a j).1 (ZeX p a j).2:=by kernel_rfl
theorem ZIi (p:El Zc) (a:Int):∀(L:Lt) (j:Zkx),procOf (procsF Go.Proofs.Tryz.prog (clOf Zt2) Zq6 Go.Proofs.Tryz.f55 Zoe (toForms Zgr (p,a,()))) (ZeX p a j).1 L (ZeX p a j).2=(ZeZ p a j).run (fun v=>some (Znn v,tps (toForms Zgr (p,a,())))) fun j=>L (ZeX p a j).1 (ZeX p a j).2 | L,.l11 l back open_ meet meet1 back1 meet2 meet3 gone gone1=>by kernel_rfl | L,.l17 h l h1 back open_ meet meet1 back1 meet2 meet3 h2 gone gone1=>by kernel_rfl
end
end Go.Ev
end

section
namespace Go.Ev
open Go
theorem ZB2 {t:Nat} {a:El Zb} :∀ {l:List (El Za)} {k:Nat},a∈accT t k l↔∃(j:Nat) (i:El Za),l[j]? =some i∧a∈accI t (k+j) i
 | [],k=>by simp[accT]
 | i :: r,k=>by
  unfold accT
  rw[List.mem_append,ZB2 (l:=r)]
  constructor
  ·rintro (h | ⟨j,i',h1,h2⟩)
   ·exact ⟨0,i,rfl,h⟩
   ·exact ⟨j+1,i',by simpa using h1,by rw[show k+(j+1)=k+1+j by omega];exact h2⟩
  ·rintro ⟨j,i',h1,h2⟩
   cases j with
   | zero=>left;simp at h1;subst h1;exact h2
   | succ j=>right;exact ⟨j,i',by simpa using h1,by rw[show k+1+j=k+(j+1) by omega];exact h2⟩
theorem ZQH {t k:Nat} {i:El Za} {a:El Zb} :a∈accI t k i↔((ZaK i).2=true∧a=((t:Int),((k:Int),((0:Int),((ZaK i).1.2.2.1,(false,Zan i))))))∨((ZaG i).2=true∧a=((t:Int),((k:Int),((if (ZaK i).2 then (1:Int) else 0),((ZaG i).1.2.2.1,(true,Zan i)))))):=by
 unfold accI
 rw[List.mem_append]
 cases (ZaK i).2 <;> cases (ZaG i).2 <;> simp
theorem Zx5 {t k:Nat} {i:El Za} {a:El Zb} (h:a∈accI t k i):(show Int from a.1)=(t:Int)∧(show Int from a.2.1)=(k:Int):=by
 rcases ZQH.1 h with ⟨_,rfl⟩ | ⟨_,rfl⟩ <;> exact ⟨rfl,rfl⟩
theorem ZCU {a:El Zb} :∀ {l:List (List (El Za))} {t:Nat},a∈accP t l↔∃(u:Nat) (x:List (El Za)) (j:Nat) (i:El Za),l[u]? =some x∧x[j]? =some i∧a∈accI (t+u) j i
 | [],t=>by simp[accP]
 | x :: r,t=>by
  unfold accP
  rw[List.mem_append,ZB2,ZCU (l:=r)]
  constructor
  ·rintro (⟨j,i,h1,h2⟩ | ⟨u,y,j,i,h1,h2,h3⟩)
   ·exact ⟨0,x,j,i,rfl,h1,by rw[Nat.zero_add] at h2;exact h2⟩
   ·exact ⟨u+1,y,j,i,by simpa using h1,h2,by rw[show t+(u+1)=t+1+u by omega];exact h3⟩
  ·rintro ⟨u,y,j,i,h1,h2,h3⟩
   cases u with
   | zero=>
    left
    simp at h1
    subst h1
    exact ⟨j,i,h2,by rw[Nat.zero_add];exact h3⟩
   | succ u=>right;exact ⟨u,y,j,i,by simpa using h1,h2,by rw[show t+1+u=t+(u+1) by omega];exact h3⟩
theorem ZLU {p:El Zc} {a:El Zb} (h:a∈ofC p):∃(u:Nat) (x:List (El Za)) (j:Nat) (i:El Za),p.2[u]? =some x∧x[j]? =some i∧a∈accI u j i∧(show Int from a.1)=(u:Int)∧(show Int from a.2.1)=(j:Int):=by
 unfold ofC at h
 split at h
 ·obtain ⟨u,x,j,i,h1,h2,h3⟩:=ZCU.1 h
  rw[Nat.zero_add] at h3
  exact ⟨u,x,j,i,h1,h2,h3,(Zx5 h3).1,(Zx5 h3).2⟩
 ·cases h
def ltNX (t k q t' k' q':Int):Prop:=t < t'∨t=t'∧(k < k'∨k=k'∧q < q')
def ltAX (a b:El Zb):Prop:=ltNX a.1 a.2.1 a.2.2.1 b.1 b.2.1 b.2.2.1
theorem ZPJ (t k:Nat) (i:El Za):(accI t k i).Pairwise ltAX:=by
 unfold accI
 cases (ZaK i).2 <;> cases (ZaG i).2 <;> simp[List.pairwise_cons]
 exact .inr ⟨rfl,.inr ⟨rfl,by show (0:Int) < 1;omega⟩⟩
theorem ZN3 {t:Nat} {l:List (El Za)} {k:Nat} {a:El Zb} (h:a∈accT t k l):∃(j:Nat) (i:El Za),l[j]? =some i∧a∈accI t (k+j) i∧(show Int from a.1)=(t:Int)∧(show Int from a.2.1)=((k+j:Nat):Int):=by
 obtain ⟨j,i,h1,h2⟩:=ZB2.1 h
 exact ⟨j,i,h1,h2,Zx5 h2⟩
theorem ZI9 (t:Nat):∀(k:Nat) (l:List (El Za)),(accT t k l).Pairwise ltAX
 | _,[]=>.nil
 | k,i :: r=>by
  unfold accT
  refine List.pairwise_append.2 ⟨ZPJ t k i,ZI9 t (k+1) r,fun a ha b hb=>?_⟩
  obtain ⟨h1,h2⟩:=Zx5 ha
  obtain ⟨j,_,_,_,h3,h4⟩:=ZN3 hb
  have key:∀a1 a2 a3 b1 b2 b3:Int,a1=t→a2=k→b1=t→b2=((k+1+j:Nat):Int)→ltNX a1 a2 a3 b1 b2 b3:=fun a1 a2 a3 b1 b2 b3 e1 e2 e3 e4=>.inr ⟨by omega,.inl (by omega)⟩
  exact key _ _ _ _ _ _ h1 h2 h3 h4
theorem ZJy:∀(t:Nat) (l:List (List (El Za))),(accP t l).Pairwise ltAX
 | _,[]=>.nil
 | t,x :: r=>by
  unfold accP
  refine List.pairwise_append.2 ⟨ZI9 t 0 x,ZJy (t+1) r,fun a ha b hb=>?_⟩
  obtain ⟨_,_,_,_,h1,_⟩:=ZN3 ha
  obtain ⟨u,_,_,_,_,_,hb3⟩:=ZCU.1 hb
  have h3:=(Zx5 hb3).1
  have key:∀a1 a2 a3 b1 b2 b3:Int,a1=t→b1=((t+1+u:Nat):Int)→ltNX a1 a2 a3 b1 b2 b3:=fun a1 a2 a3 b1 b2 b3 e1 e3=>.inl (by omega)
  exact key _ _ _ _ _ _ h1 h3
theorem ZQD (p:El Zc):(ofC p).Pairwise ltAX:=by
 unfold ofC
 split
 ·exact ZJy 0 p.2
 ·exact .nil
theorem ZuO {t:List (El Za)} (h:smallThread t=true):flowOK t=true:=by
 have labs:∀ {t:List (El Za)} {i:El Za},i∈t→i.2.2.2.2.2.2.length≤(labels t).length:=fun {t i} hi=>by
  unfold labels
  induction t with
  | nil=>cases hi
  | cons x r ih=>
   rw[List.flatMap_cons,List.length_append]
   rcases List.mem_cons.1 hi with rfl | hi
   ·omega
   ·have:=ih hi;omega
 unfold smallThread at h
 simp only[Bool.and_eq_true,List.all_eq_true,decide_eq_true_eq] at h
 unfold flowOK
 simp only[Bool.and_eq_true,List.all_eq_true,decide_eq_true_eq]
 refine ⟨h.1,fun i hi=>⟨(h.2.2 i hi).1,?_⟩⟩
 have:=labs hi
 omega
end Go.Ev
end

section
open Go
namespace Go.Ev
noncomputable def ZbU (p:El Zc) (a:Int):List Int:=if 0≤a∧a < ((ofC p).length:Int) then listOf (ofC p).length (backB p (ofC p) a.toNat) else []
def Zic (p:El Zc) (a:Int):Bool:=smallAll p
theorem ZGr {l:List Acc} {x:Nat} {own a:Int} :∀(n h:Nat) (s:SetT×List Int×SetT) (C B:Nat→Bool),l.length < 1099511627776→h+n≤l.length→SetOK s.1 l.length C→SetOK s.2.2 l.length B→
  ∃C' B',SetOK (meetF l (x:Int) own a (List.range' h n) s).1 l.length C'∧SetOK (meetF l (x:Int) own a (List.range' h n) s).2.2 l.length B'∧
   (∀j,C' j=true↔C j=true∨(h≤j∧j < h+n∧clB l x j=true∧thA l j≠own))∧(∀j,B' j=true↔B j=true∨(h≤j∧j < h+n∧clB l x j=true∧thA l j=own∧(x:Int)≠a))∧
   (∀y∈s.2.1,y∈(meetF l (x:Int) own a (List.range' h n) s).2.1)∧(∀y∈(meetF l (x:Int) own a (List.range' h n) s).2.1,y∈s.2.1∨∃j:Nat,y=(j:Int)∧C' j=true)∧
   (∀j,C' j=true→C j=true∨(j:Int)∈(meetF l (x:Int) own a (List.range' h n) s).2.1)∧(meetF l (x:Int) own a (List.range' h n) s).2.1.length+card l.length C=s.2.1.length+card l.length C'
 | 0,h,s,C,B,_,_,hC,hB=>⟨C,B,hC,hB,fun j=>⟨.inl,fun h=>h.elim id fun h=>by omega⟩,fun j=>⟨.inl,fun h=>h.elim id fun h=>by omega⟩,fun y hy=>hy,fun y hy=>.inl hy,fun j hj=>.inl hj,rfl⟩
 | n+1,h,s,C,B,hN,hn,hC,hB=>by
  rw[List.range'_succ,meetF]
  have hh:h < l.length:=by omega
  have one:∃C1 B1,SetOK (meet1 l (x:Int) own a h s).1 l.length C1∧SetOK (meet1 l (x:Int) own a h s).2.2 l.length B1∧(∀j,C1 j=true↔C j=true∨(j=h∧clB l x h=true∧thA l h≠own))∧(∀j,B1 j=true↔B j=true∨(j=h∧clB l x h=true∧thA l h=own∧(x:Int)≠a))∧
    (∀y∈s.2.1,y∈(meet1 l (x:Int) own a h s).2.1)∧(∀y∈(meet1 l (x:Int) own a h s).2.1,y∈s.2.1∨∃j:Nat,y=(j:Int)∧C1 j=true)∧(∀j,C1 j=true→C j=true∨(j:Int)∈(meet1 l (x:Int) own a h s).2.1)∧
    (meet1 l (x:Int) own a h s).2.1.length+card l.length C=s.2.1.length+card l.length C1:=by
   unfold meet1
   rw[Int.toNat_natCast]
   by_cases c1:clB l x h=true
   ·rw[if_pos c1]
    by_cases c2:thA l h=own
    ·rw[if_neg (by simp[c2])]
     by_cases c3:(x:Int)=a
     ·rw[if_neg (by simp[c3])]
      exact ⟨C,B,hC,hB,fun j=>⟨.inl,fun h=>h.elim id fun h=>absurd c2 h.2.2⟩,fun j=>⟨.inl,fun h=>h.elim id fun h=>absurd c3 h.2.2.2⟩,fun y hy=>hy,fun y hy=>.inl hy,fun j hj=>.inl hj,rfl⟩
     ·rw[if_pos c3]
      obtain ⟨_,p2⟩:=hB.putO (by omega) hh
      refine ⟨C,_,hC,p2,fun j=>⟨.inl,fun h=>h.elim id fun h=>absurd c2 h.2.2⟩,fun j=>?_,fun y hy=>hy,fun y hy=>.inl hy,fun j hj=>.inl hj,rfl⟩
      rw[Bool.or_eq_true,beq_iff_eq]
      exact or_congr Iff.rfl ⟨fun h=>⟨h,c1,c2,c3⟩,fun h=>h.1⟩
    ·rw[if_pos c2]
     obtain ⟨p1,p2⟩:=hC.putO (by omega) hh
     have hB':∀j,B j=true↔B j=true∨(j=h∧clB l x h=true∧thA l h=own∧(x:Int)≠a):=fun j=>⟨.inl,fun h=>h.elim id fun h=>absurd h.2.2.1 c2⟩
     have hC':∀j,(C j || (j==h))=true↔C j=true∨(j=h∧clB l x h=true∧thA l h≠own):=fun j=>by
      rw[Bool.or_eq_true,beq_iff_eq]
      exact or_congr Iff.rfl ⟨fun h=>⟨h,c1,c2⟩,fun h=>h.1⟩
     refine ⟨_,B,p2,hB,hC',hB',?_⟩
     cases hCh:C h with
     | true=>
      rw[hCh] at p1
      rw[if_neg (by rw[p1];decide)]
      have e:(fun k=>C k || (k==h))=C:=funext fun k=>by
       by_cases hk:k=h
       ·subst hk;rw[hCh];rfl
       ·have:(k==h)=false:=by simpa using hk
        rw[this,Bool.or_false]
      refine ⟨fun y hy=>hy,fun y hy=>.inl hy,fun j hj=>.inl ?_,by rw[e]⟩
      have:=congrFun e j
      rw[←this];exact hj
     | false=>
      rw[hCh] at p1
      rw[if_pos (by rw[p1];rfl)]
      refine ⟨fun y hy=>List.mem_append_left _ hy,fun y hy=>?_,fun j hj=>?_,?_⟩
      ·rcases List.mem_append.1 hy with hy | hy
       ·exact .inl hy
       ·simp only[List.mem_singleton] at hy
        exact .inr ⟨h,hy,by simp⟩
      ·rw[Bool.or_eq_true,beq_iff_eq] at hj
       rcases hj with hj | rfl
       ·exact .inl hj
       ·exact .inr (List.mem_append_right _ (by simp))
      ·rw[Zos hCh hh,List.length_append,List.length_singleton]
       omega
   ·rw[if_neg c1]
    exact ⟨C,B,hC,hB,fun j=>⟨.inl,fun h=>h.elim id fun h=>absurd h.2.1 c1⟩,fun j=>⟨.inl,fun h=>h.elim id fun h=>absurd h.2.1 c1⟩,fun y hy=>hy,fun y hy=>.inl hy,fun j hj=>.inl hj,rfl⟩
  obtain ⟨C1,B1,a1,a2,a3,a4,a5,a6,a7,a8⟩:=one
  obtain ⟨C2,B2,b1,b2,b3,b4,b5,b6,b7,b8⟩:=ZGr n (h+1) (meet1 l (x:Int) own a h s) C1 B1 hN (by omega) a1 a2
  refine ⟨C2,B2,b1,b2,fun j=>?_,fun j=>?_,fun y hy=>b5 y (a5 y hy),fun y hy=>?_,fun j hj=>?_,by omega⟩
  ·rw[b3,a3,or_assoc]
   refine or_congr Iff.rfl ⟨?_,?_⟩
   ·rintro (⟨rfl,h1⟩ | ⟨h1,h2,h3⟩)
    ·exact ⟨Nat.le_refl _,by omega,h1⟩
    ·exact ⟨by omega,by omega,h3⟩
   ·rintro ⟨h1,h2,h3⟩
    by_cases e:j=h
    ·subst e;exact .inl ⟨rfl,h3⟩
    ·exact .inr ⟨by omega,by omega,h3⟩
  ·rw[b4,a4,or_assoc]
   refine or_congr Iff.rfl ⟨?_,?_⟩
   ·rintro (⟨rfl,h1⟩ | ⟨h1,h2,h3⟩)
    ·exact ⟨Nat.le_refl _,by omega,h1⟩
    ·exact ⟨by omega,by omega,h3⟩
   ·rintro ⟨h1,h2,h3⟩
    by_cases e:j=h
    ·subst e;exact .inl ⟨rfl,h3⟩
    ·exact .inr ⟨by omega,by omega,h3⟩
  ·rcases b6 y hy with h1 | h1
   ·rcases a6 y h1 with h2 | ⟨j,h2,h3⟩
    ·exact .inl h2
    ·exact .inr ⟨j,h2,(b3 j).2 (.inl h3)⟩
   ·exact .inr h1
  ·rcases b7 j hj with h1 | h1
   ·rcases a7 j h1 with h2 | h2
    ·exact .inl h2
    ·exact .inr (b5 _ h2)
   ·exact .inr h1
structure BInv (p:El Zc) (l:List Acc) (a:Nat) (C G B:Nat→Bool) (O:List Int):Prop where
 c:∀c,C c=true↔c < l.length∧thA l c≠thA l a∧(clB l a c=true∨∃k,G k=true∧clB l k c=true)
 g:∀d,G d=true→∃c,C c=true∧behB p l c d=true
 o:∀x∈O,∃c:Nat,x=(c:Int)∧C c=true
 b:∀b,B b=true↔b < l.length∧thA l b=thA l a∧∃k,G k=true∧clB l k b=true
 s:∀d,G d=true→isB p l a d=true
theorem BInv.is {p:El Zc} {l:List Acc} {a:Nat} {C G B:Nat→Bool} {O:List Int} (h:BInv p l a C G B O) {c:Nat} (hc:C c=true):isB p l a c=true:=by
 obtain ⟨h1,h2,h3⟩:=(h.c c).1 hc
 rcases h3 with h3 | ⟨k,hk,h3⟩
 ·exact Zee.2 (.start (by unfold chS;rw[decide_eq_true h1,h3];rfl))
 ·refine Zee.2 (.step (Zee.1 (h.s k hk)) ?_)
  unfold chB
  simp only[Bool.and_eq_true,decide_eq_true_eq,Bool.not_eq_true',beq_eq_false_iff_ne,Bool.or_eq_true]
  exact ⟨h1,h2,.inl h3⟩
theorem BInv.meet {p:El Zc} {l:List Acc} {a d:Nat} {C G B C' B':Nat→Bool} {O O':List Int} {c:Nat} (h:BInv p l a C G B O) (hc:C c=true) (hd:behB p l c d=true) (hl:d < l.length)
  (hC:∀j,C' j=true↔C j=true∨(0≤j∧j < 0+l.length∧clB l d j=true∧thA l j≠thA l a)) (hB:∀j,B' j=true↔B j=true∨(0≤j∧j < 0+l.length∧clB l d j=true∧thA l j=thA l a∧(d:Int)≠(a:Int)))
  (hO:∀y∈O',y∈O∨∃j:Nat,y=(j:Int)∧C' j=true):BInv p l a C' (fun k=>G k || (k==d)) B' O':=by
 have hth:=ZPI hd
 have hne:=((h.c c).1 hc).2.1
 have hdis:isB p l a d=true:=by
  refine Zee.2 (.step (Zee.1 (h.is hc)) ?_)
  unfold chB
  simp only[Bool.and_eq_true,decide_eq_true_eq,Bool.not_eq_true',beq_eq_false_iff_ne,Bool.or_eq_true]
  exact ⟨hl,by rw[hth.2];exact hne,.inr hd⟩
 have hg:∀k,(G k || (k==d))=true↔G k=true∨k=d:=fun k=>by rw[Bool.or_eq_true,beq_iff_eq]
 refine ⟨fun j=>?_,fun j hj=>?_,fun y hy=>?_,fun j=>?_,fun j hj=>?_⟩
 ·rw[hC,h.c]
  constructor
  ·rintro (⟨h1,h2,h3⟩ | ⟨_,h1,h2,h3⟩)
   ·exact ⟨h1,h2,h3.imp id fun ⟨k,hk,h4⟩=>⟨k,(hg k).2 (.inl hk),h4⟩⟩
   ·exact ⟨by omega,h3,.inr ⟨d,(hg d).2 (.inr rfl),h2⟩⟩
  ·rintro ⟨h1,h2,h3⟩
   rcases h3 with h3 | ⟨k,hk,h3⟩
   ·exact .inl ⟨h1,h2,.inl h3⟩
   ·rcases (hg k).1 hk with hk | rfl
    ·exact .inl ⟨h1,h2,.inr ⟨k,hk,h3⟩⟩
    ·exact .inr ⟨Nat.zero_le _,by omega,h3,h2⟩
 ·rcases (hg j).1 hj with hj | rfl
  ·obtain ⟨c',h1,h2⟩:=h.g j hj
   exact ⟨c',(hC c').2 (.inl h1),h2⟩
  ·exact ⟨c,(hC c).2 (.inl hc),hd⟩
 ·rcases hO y hy with hy | hy
  ·obtain ⟨c',h1,h2⟩:=h.o y hy
   exact ⟨c',h1,(hC c').2 (.inl h2)⟩
  ·exact hy
 ·rw[hB,h.b]
  constructor
  ·rintro (⟨h1,h2,k,hk,h3⟩ | ⟨_,h1,h2,h3,_⟩)
   ·exact ⟨h1,h2,k,(hg k).2 (.inl hk),h3⟩
   ·exact ⟨by omega,h3,d,(hg d).2 (.inr rfl),h2⟩
  ·rintro ⟨h1,h2,k,hk,h3⟩
   rcases (hg k).1 hk with hk | rfl
   ·exact .inl ⟨h1,h2,k,hk,h3⟩
   ·refine .inr ⟨Nat.zero_le _,by omega,h3,h2,fun e=>hne ?_⟩
    have:k=a:=by omega
    subst this
    rw[←hth.2]
 ·rcases (hg j).1 hj with hj | rfl
  ·exact h.s j hj
  ·exact hdis
theorem ZJx (p:El Zc) (a:Int) (hk:Zic p a=true):Goes (ZeZ p a) (ZpV p a) (ZbU p a):=by
 have hA:=smallA hk
 have hNl:=ZQC hk
 have kt:Zpx p=true:=hk
 have vt:ZD p=ofC p:=rfl
 have hacc:∀c,c < (ofC p).length→0≤thA (ofC p) c∧thA (ofC p) c < (p.2.length:Int)∧flowOK (thrOf p (ofC p) c)=true:=fun c hc=>by
  have hm:accA (ofC p) c∈ofC p:=by unfold accA;rw[ZG hc];exact List.getElem_mem hc
  obtain ⟨u,x,j,i,h1,h2,h3,h4,h5⟩:=ZLU hm
  have hth:thA (ofC p) c=(u:Int):=h4
  have hu:=(List.getElem?_eq_some_iff.1 h1).1
  have hx:x∈p.2:=List.mem_of_getElem? h1
  refine ⟨by omega,by omega,?_⟩
  unfold thrOf
  rw[hth,Int.toNat_natCast,List.getD_eq_getElem?_getD,h1]
  exact ZuO (hA.thr x hx)
 obtain ⟨l,hl⟩:∃l,ofC p=l:=⟨_,rfl⟩
 rw[hl] at hNl vt hacc
 obtain ⟨T,hT⟩:∃T,T=ZeZ p a:=⟨_,rfl⟩
 rw[←hT]
 unfold ZpV ZbU
 rw[Ze,if_pos kt,vt,hl,Ze]
 by_cases h0:a < 0
 ·rw[if_pos (decide_eq_true h0),if_neg (by omega)];exact .leaf
 rw[if_neg (by simpa using h0),Ze]
 by_cases h1:a≥Int.ofNat l.length
 ·rw[if_pos (decide_eq_true h1),if_neg (by simp at h1;omega)];exact .leaf
 obtain ⟨a,rfl⟩:=Int.eq_ofNat_of_zero_le (show 0≤a by omega)
 have ha:a < l.length:=by simp at h1;omega
 rw[if_neg (by simpa using h1),Ze,if_pos (Zas ha),Ze,Int.toNat_natCast]
 have hval:(if (0:Int)≤(a:Int)∧(a:Int) < (l.length:Int) then listOf l.length (backB p l a) else [])=listOf l.length (backB p l a):=if_pos ⟨by omega,by omega⟩
 rw[hval]
 have hown:(List.getD l a (dflt Zb)).1=thA l a:=rfl
 have hnew:Zz (Int.ofNat l.length)=(((l.length:Nat):Int),[]):=by
  unfold Zz
  simp
  omega
 rw[hown,hnew]
 have kb:∀(x:Nat) (come:SetT) (o:List Int) (b:SetT),x < l.length→o.length < 1099511627776→ZgO (x:Int) l (thA l a) come o (a:Int) b=true:=fun x come o b hx ho=>decide_eq_true ⟨by omega,by omega,by omega,ho⟩
 have fin:∀(C G B:Nat→Bool) (sc sg sb:SetT),SetOK sb l.length B→BInv p l a C G B []→
   (∀c,C c=true→(c:Int)∈([]:List Int)∨∀d,behB p l c d=true→G d=true)→Goes T (.jmp (.l11 l sb.1 [] (thA l a) (a:Int) sb.2 sc.1 sc.2 sg.1 sg.2)) (listOf l.length (backB p l a)):=by
  intro C G B sc sg sb hb hi hp
  rw[Zh,hT,ZeZ,←hT,Ze,if_neg (by decide)]
  have hkl:Zbu (sb.1,sb.2)=true:=Nat.ble_eq_true_of_le (by have:=hb.few;unfold limit;show sb.2.length*512≤_;omega)
  rw[Ze,if_pos hkl]
  have hGi:∀d,G d=isB p l a d:=ZSF hi.c (fun d=>⟨hi.g d,fun ⟨c,h1,h2⟩=>(hp c h1).elim (fun h=>by cases h) fun h=>h d h2⟩) hi.s
  have hv:(ZbV (sb.1,sb.2)).1=listOf l.length (backB p l a):=by
   show listS sb=_
   rw[hb.list (by omega)]
   refine Zt5 fun j hj=>?_
   unfold backB
   rw[Bool.eq_iff_iff,hi.b,Bool.and_eq_true,beq_iff_eq,List.any_eq_true]
   constructor
   ·rintro ⟨_,h2,k,hk,h3⟩
    rw[hGi] at hk
    exact ⟨h2,k,List.mem_range.2 (ZS5 hk).1,by rw[hk,h3];rfl⟩
   ·rintro ⟨h2,k,_,h3⟩
    rw[Bool.and_eq_true] at h3
    exact ⟨hj,h2,k,by rw[hGi];exact h3.1,h3.2⟩
  rw[hv]
  exact .leaf
 have loop:∀m,∀(C G B:Nat→Bool) (sc sg sb:SetT) (O:List Int),2*(l.length - card l.length C)+O.length≤m→O.length≤card l.length C→SetOK sc l.length C→SetOK sg l.length G→SetOK sb l.length B→BInv p l a C G B O→
   (∀c,C c=true→(c:Int)∈O∨∀d,behB p l c d=true→G d=true)→Goes T (.jmp (.l11 l sb.1 O (thA l a) (a:Int) sb.2 sc.1 sc.2 sg.1 sg.2)) (listOf l.length (backB p l a)):=by
  intro m
  induction m with
  | zero=>
   intro C G B sc sg sb O hm hO1 hc hg hb hi hp
   have:O=[]:=List.eq_nil_of_length_eq_zero (by omega)
   subst this
   exact fin C G B sc sg sb hb hi hp
  | succ m ih=>
   intro C G B sc sg sb O hm hO1 hc hg hb hi hp
   cases O with
   | nil=>exact fin C G B sc sg sb hb hi hp
   | cons x O=>
    obtain ⟨c,rfl,hCc⟩:=hi.o x (by simp)
    have hcl:=((hi.c c).1 hCc).1
    have hcard:= @ZfC l.length C
    obtain ⟨q1,q2,q3⟩:=hacc c hcl
    have kbh:ZeD p l (c:Int)=true:=by
     unfold ZeD
     rw[Int.toNat_natCast,q3,decide_eq_true ⟨by omega,by omega,by omega⟩,decide_eq_true ⟨q1,q2⟩];rfl
    have e0:List.getD ((c:Int) :: O) 0 (dflt (.int .i64))=(c:Int):=rfl
    have g1:decide (Int.ofNat ((c:Int) :: O).length > (0:Int))=true:=decide_eq_true (by simp <;> omega)
    have g2:decide ((0:Int) < Int.ofNat ((c:Int) :: O).length)=true:=decide_eq_true (by simp <;> omega)
    have g3:Nat.ble 1 ((c:Int) :: O).length=true:=Nat.ble_eq_true_of_le (by simp)
    rw[Zh,hT,ZeZ,←hT,Ze,if_pos g1,Ze,if_pos g2,Ze,if_pos g3,e0,Ze,if_pos kbh]
    obtain ⟨L,hL⟩:∃L,Zcj p l (c:Int)=L:=⟨_,rfl⟩
    have hLm:∀y,y∈L↔∃d:Nat,d < l.length∧behB p l c d=true∧y=(d:Int):=fun y=>by rw[←hL];unfold Zcj;rw[Int.toNat_natCast];exact ZcE
    have hLl:L.length≤l.length:=by rw[←hL];unfold Zcj;rw[ZiO];exact ZfC
    rw[hL,show List.drop 1 ((c:Int) :: O)=O from rfl]
    have inner:∀h,h≤L.length→∀(C G B:Nat→Bool) (sc sg sb:SetT) (O:List Int),2*(l.length - card l.length C)+O.length≤m→O.length≤card l.length C→SetOK sc l.length C→SetOK sg l.length G→SetOK sb l.length B→BInv p l a C G B O→C c=true→
      (∀c',C c'=true→c'≠c→(c':Int)∈O∨∀d,behB p l c' d=true→G d=true)→(∀d,behB p l c d=true→G d=true∨(d:Int)∈L.drop h)→
      Goes T (.jmp (.l17 (Int.ofNat L.length) l L sb.1 O (thA l a) (a:Int) sb.2 sc.1 sc.2 (h:Int) sg.1 sg.2)) (listOf l.length (backB p l a)):=by
     refine down ?_ fun h hh ih2=>?_
     ·intro C G B sc sg sb O hm hO1 hc hg hb hi hCc hp hcur
      rw[Zh,hT,ZeZ,←hT,Ze,if_neg (by simp)]
      refine ih C G B sc sg sb O hm hO1 hc hg hb hi fun c' hc'=>?_
      by_cases e:c'=c
      ·subst e
       right
       intro d hd
       rcases hcur d hd with h1 | h1
       ·exact h1
       ·rw[List.drop_length] at h1;cases h1
      ·exact hp c' hc' e
     ·intro C G B sc sg sb O hm hO1 hc hg hb hi hCc hp hcur
      obtain ⟨d,hd,hbd,hde⟩:=(hLm L[h]).1 (List.getElem_mem hh)
      have hcard:= @ZfC l.length C
      obtain ⟨p1,p2⟩:=hg.putO (by omega) hd
      have hput:Zr (sg.1,sg.2) (d:Int)=putS sg (d:Int):=rfl
      have hkb:=kb d (sc.1,sc.2) O (sb.1,sb.2) hd (by omega)
      rw[Zh,hT,ZeZ,←hT,Ze,if_pos (ZK hh),Ze,if_pos (Zas hh),Int.toNat_natCast,ZG hh,hde,hput,Zo (by omega),Ze]
      have hdrop:=ZM hh
      cases hGd:G d with
      | true=>
       rw[hGd] at p1
       rw[if_neg (by rw[p1];decide)]
       have e:∀k,(G k || (k==d))=G k:=fun k=>by
        by_cases hk:k=d
        ·subst hk;rw[hGd];rfl
        ·have:(k==d)=false:=by simpa using hk
         rw[this,Bool.or_false]
       refine ih2 C G B sc _ sb O hm hO1 hc (p2.congr' e) hb hi hCc hp fun d' hd'=>?_
       rcases hcur d' hd' with h1 | h1
       ·exact .inl h1
       ·rw[hdrop] at h1
        rcases List.mem_cons.1 h1 with h1 | h1
        ·rw[hde] at h1
         have:d'=d:=by omega
         subst this
         exact .inl hGd
        ·exact .inr h1
      | false=>
       rw[hGd] at p1
       rw[if_pos (by rw[p1];rfl),Ze,if_pos hkb]
       obtain ⟨C',B',b1,b2,b3,b4,b5,b6,b7,b8⟩:=ZGr (l:=l) (x:=d) (own:=thA l a) (a:=(a:Int)) l.length 0 (sc,O,sb) C B (by omega) (by omega) hc hb
       have hv:ZX (d:Int) l (thA l a) (sc.1,sc.2) O (a:Int) (sb.1,sb.2)=(l,thA l a,(meetF l (d:Int) (thA l a) (a:Int) (List.range' 0 l.length) (sc,O,sb)).1,(meetF l (d:Int) (thA l a) (a:Int) (List.range' 0 l.length) (sc,O,sb)).2.1,(a:Int),(meetF l (d:Int) (thA l a) (a:Int) (List.range' 0 l.length) (sc,O,sb)).2.2):=rfl
       rw[hv]
       generalize meetF l (d:Int) (thA l a) (a:Int) (List.range' 0 l.length) (sc,O,sb)=R at*
       have hi':=hi.meet (O':=R.2.1) hCc hbd hd b3 b4 b6
       have hcl2:= @ZfC l.length C'
       simp only at b5 b6 b7 b8
       have b8':R.2.1.length+card l.length C=O.length+card l.length C':=b8
       have hcm:card l.length C≤card l.length C':=ZLG fun j h=>(b3 j).2 (.inl h)
       have m1:2*(l.length - card l.length C')+R.2.1.length≤m:=by omega
       have m2:R.2.1.length≤card l.length C':=by omega
       refine ih2 C' _ B' R.1 _ R.2.2 R.2.1 m1 m2 b1 p2 b2 hi' ((b3 c).2 (.inl hCc)) (fun c' hc' hne=>?_) fun d' hd'=>?_
       ·rcases b7 c' hc' with h1 | h1
        ·rcases hp c' h1 hne with h2 | h2
         ·exact .inl (b5 _ h2)
         ·exact .inr fun d'' hd''=>by rw[h2 d'' hd''];rfl
        ·exact .inl h1
       ·rcases hcur d' hd' with h1 | h1
        ·left;rw[h1];rfl
        ·rw[hdrop] at h1
         rcases List.mem_cons.1 h1 with h1 | h1
         ·rw[hde] at h1
          have:d'=d:=by omega
          subst this
          left;simp
         ·exact .inr h1
    refine inner 0 (Nat.zero_le _) C G B sc sg sb O (by simp at hm;omega) (by simp at hO1;omega) hc hg hb ⟨hi.c,hi.g,fun y hy=>hi.o y (List.mem_cons_of_mem _ hy),hi.b,hi.s⟩ hCc (fun c' hc' hne=>?_) fun d hd=>?_
    ·rcases hp c' hc' with h1 | h1
     ·rcases List.mem_cons.1 h1 with h1 | h1
      ·exact absurd (by omega) hne
      ·exact .inl h1
     ·exact .inr h1
    ·exact .inr (by rw[List.drop_zero];exact (hLm _).2 ⟨d,(ZPI hd).1,hd,rfl⟩)
 rw[if_pos (kb a _ [] _ ha (by simp))]
 obtain ⟨C',B',b1,b2,b3,b4,b5,b6,b7,b8⟩:=ZGr (l:=l) (x:=a) (own:=thA l a) (a:=(a:Int)) l.length 0 ((((l.length:Nat):Int),[]),[],(((l.length:Nat):Int),[])) (fun _=>false) (fun _=>false) (by omega) (by omega) (SetOK.new _) (SetOK.new _)
 have hv:ZX (a:Int) l (thA l a) (((l.length:Nat):Int),[]) [] (a:Int) (((l.length:Nat):Int),[])=(l,thA l a,(meetF l (a:Int) (thA l a) (a:Int) (List.range' 0 l.length) ((((l.length:Nat):Int),[]),[],(((l.length:Nat):Int),[]))).1,(meetF l (a:Int) (thA l a) (a:Int) (List.range' 0 l.length) ((((l.length:Nat):Int),[]),[],(((l.length:Nat):Int),[]))).2.1,(a:Int),(meetF l (a:Int) (thA l a) (a:Int) (List.range' 0 l.length) ((((l.length:Nat):Int),[]),[],(((l.length:Nat):Int),[]))).2.2):=rfl
 rw[hv]
 generalize meetF l (a:Int) (thA l a) (a:Int) (List.range' 0 l.length) ((((l.length:Nat):Int),[]),[],(((l.length:Nat):Int),[]))=R at*
 simp only at b5 b6 b7 b8
 have hcl2:= @ZfC l.length C'
 have h00:card l.length (fun _=>false)=0:=by unfold card;simp
 rw[h00] at b8
 refine loop _ C' (fun _=>false) B' R.1 (((l.length:Nat):Int),[]) R.2.2 R.2.1 (Nat.le_refl _) (by simp at b8;omega) b1 (SetOK.new _) b2 ⟨fun c=>?_,fun d hd=>(by cases hd),fun y hy=>?_,fun b=>?_,fun d hd=>(by cases hd)⟩ fun c hc=>?_
 ·rw[b3]
  constructor
  ·rintro (h | ⟨_,h1,h2,h3⟩)
   ·cases h
   ·exact ⟨by omega,h3,.inl h2⟩
  ·rintro ⟨h1,h2,h3 | ⟨k,hk,_⟩⟩
   ·exact .inr ⟨Nat.zero_le _,by omega,h3,h2⟩
   ·cases hk
 ·rcases b6 y hy with h | h
  ·cases h
  ·exact h
 ·rw[b4]
  constructor
  ·rintro (h | ⟨_,_,_,_,h⟩)
   ·cases h
   ·exact absurd rfl h
  ·rintro ⟨_,_,k,hk,_⟩
   cases hk
 ·rcases b7 c hc with h | h
  ·cases h
  ·exact .inl h
end Go.Ev
end

section
open Go Go.Ev
namespace Go.Ev
noncomputable section
noncomputable def ZAC:Run:=entG Zgr Znn (fun a=>Zic a.1 a.2.1) (fun a=>ZbU a.1 a.2.1)
theorem ZIL:EntOK Go.Proofs.Tryz.prog 55 ZAC:=ZH (tb:=Zq6) (c:=Zoe) ZIG (by kernel_rfl) (by kernel_rfl) (by kernel_rfl) (fun a=>by kernel_rfl) fun ⟨p,a,_⟩ hk=>Zm (c:=Zoe) (K:=fun v=>(Znn v,tps (toForms Zgr (p,a,())))) (S:=ZeX p a) (by kernel_rfl) (ZIn p a) (ZIi p a) (ZJx p a hk)
end
end Go.Ev
end

section
open Go Go.Ev
namespace Go.Ev
noncomputable section
def dpB:Code:=Go.Proofs.Tryz.f31.body.getD .skip
def lpR1 (K:Code):Code:=fstC (innC (innC K))
def lpB (K:Code):Code:=innC (fstC (sndC (sndC (innC (innC K)))))
def lpR2 (K:Code):Code:=sndC (sndC (sndC (innC (innC K))))
def dp0:Code:=fstC dpB
def dp1:Code:=fstC (sndC dpB)
def dp2:Code:=fstC (sndC (sndC dpB))
def dp3:Code:=fstC (fstC (sndC (sndC (sndC dpB))))
def dpK0:Code:=sndC (fstC (sndC (sndC (sndC dpB))))
def dpE:Code:=fstC (sndC (sndC (sndC (sndC dpB))))
def dpT:Tbl:=[(49,ZyZ),(50,Zx0),(51,ZlY),(52,Zw2),(53,Zc7),(54,ZgP),(55,ZAC)]
theorem ZSR:∀p∈dpT,EntOK Go.Proofs.Tryz.prog p.1 p.2:=Zg ZDA (Zg ZEY (Zg Zmg (Zg ZAo (Zg Zcs (Zg Ze0 (Zg ZIL (Zt)))))))
theorem ZSX:dpB=.seq dp0 (.seq dp1 (.seq dp2 (.seq (.seq dp3 dpK0) (.seq dpE .ret)))):=by kernel_rfl
theorem ZSj:dpK0=.block 0 (.loop (.seq (lpR1 dpK0) (.seq (.cond (.tmp 23) .skip (.exit 0)) (.seq (.block 1 (lpB dpK0)) (lpR2 dpK0))))):=by kernel_rfl
def dp4:Code:=fstC (lpB dpK0)
def dp5:Code:=fstC (sndC (lpB dpK0))
def dp6:Code:=fstC (sndC (sndC (lpB dpK0)))
def dpK2:Code:=sndC (sndC (sndC (lpB dpK0)))
theorem ZSc:lpB dpK0=.seq dp4 (.seq (.region (ridC dp5) (ropsC dp5) false) (.seq dp6 dpK2)):=by kernel_rfl
theorem ZSC:dpK2=.block 2 (.loop (.seq (lpR1 dpK2) (.seq (.cond (.tmp 32) .skip (.exit 2)) (.seq (.block 3 (lpB dpK2)) (lpR2 dpK2))))):=by kernel_rfl
def dp7:Code:=fstC (lpB dpK2)
def dp8:Code:=fstC (sndC (lpB dpK2))
def dp9:Code:=fstC (fstC (sndC (sndC (lpB dpK2))))
def dpK4:Code:=sndC (fstC (sndC (sndC (lpB dpK2))))
def dp10:Code:=fstC (sndC (sndC (sndC (lpB dpK2))))
def dpK6:Code:=sndC (sndC (sndC (sndC (lpB dpK2))))
theorem ZSl:lpB dpK2=.seq dp7 (.seq dp8 (.seq (.seq dp9 dpK4) (.seq dp10 dpK6))):=by kernel_rfl
theorem ZSh:dpK4=.block 4 (.loop (.seq (lpR1 dpK4) (.seq (.cond (.tmp 56) .skip (.exit 4)) (.seq (.block 5 (lpB dpK4)) (lpR2 dpK4))))):=by kernel_rfl
theorem ZSJ:dpK6=.block 6 (.loop (.seq (lpR1 dpK6) (.seq (.cond (.tmp 68) .skip (.exit 6)) (.seq (.block 7 (lpB dpK6)) (lpR2 dpK6))))):=by kernel_rfl
def dp11:Code:=fstC (lpB dpK6)
def dp12:Code:=fstC (fstC (sndC (lpB dpK6)))
def dpX1:Code:=fstC (sndC (sndC (lpB dpK6)))
def dp13:Code:=fstC dpX1
def dpY:Code:=thenC (sndC dpX1)
def dp14:Code:=fstC dpY
def dp15:Code:=fstC (sndC dpY)
def dpK8:Code:=sndC (sndC dpY)
def dp16:Code:=fstC (sndC (sndC (sndC (lpB dpK6))))
def dp17:Code:=thenC (sndC (sndC (sndC (sndC (lpB dpK6)))))
theorem ZSb:lpB dpK6=.seq dp11 (.seq (.seq dp12 (.cond (.tmp 78) (.exit 7) .skip)) (.seq (.seq (.region (ridC dp13) (ropsC dp13) false) (.cond (.tmp 82) (.seq (.region (ridC dp14) (ropsC dp14) false) (.seq dp15 dpK8)) .skip)) (.seq (.region (ridC dp16) (ropsC dp16) false) (.cond (.tmp 106) dp17 .skip)))):=by kernel_rfl
theorem ZSy:dpK8=.block 8 (.loop (.seq (lpR1 dpK8) (.seq (.cond (.tmp 93) .skip (.exit 8)) (.seq (.block 9 (lpB dpK8)) (lpR2 dpK8))))):=by kernel_rfl
def dp18:Code:=fstC (lpB dpK8)
def dp19:Code:=sndC (lpB dpK8)
theorem ZSK:lpB dpK8=.seq dp18 (.region (ridC dp19) (ropsC dp19) false):=by kernel_rfl
abbrev SetD:=Int×List (El (.int .i64)×El (.int .u64))
def dObP (p:El Zc):Id×Nat×Obj:=(2,0,.box 26 [.d (.sl Zy) p.1,.d (.sl (.sl Za)) p.2] none)
def dObO (out:List (El Zd)):Id×Nat×Obj:=(5,0,.row 57 Zd out false)
def stA (p:El Zc) (l:List (El Zb)) (out:List (El Zd)) (t:Int):St:=
 ⟨mkTm 126 [(1,.pt 2 0 0),(3,.d (.sl Zb) l),(4,.own 5 0 none),(21,.d (.int .i64) (Int.ofNat (List.length p.2))),(22,.d (.int .i64) t)],[dObP p,dObO out]⟩
def labA:Lab:=⟨[1,3,4,21,22],[(5,106)]⟩
def stA5 (p:El Zc) (l:List (El Zb)) (out:List (El Zd)) (t:Int):St:=
 ⟨mkTm 126 [(1,.pt 2 0 0),(3,.d (.sl Zb) l),(4,.own 5 0 none),(5,.d (.int .i64) t),(21,.d (.int .i64) (Int.ofNat (List.length p.2))),(22,.d (.int .i64) t)],[dObP p,dObO out]⟩
def labA5:Lab:=⟨[1,3,4,5,21,22],[(5,106)]⟩
def stB (p:El Zc) (l:List (El Zb)) (out:List (El Zd)) (t:Int) (m:Nat) (ss:List Int) (k:Int):St:=
 ⟨mkTm 126 [(1,.pt 2 0 0),(3,.d (.sl Zb) l),(4,.own 5 0 none),(5,.d (.int .i64) t),(7,.cst (.map (some m))),(21,.d (.int .i64) (Int.ofNat (List.length p.2))),(22,.d (.int .i64) t),(29,.own 30 0 none),(30,.d (.int .i64) (Int.ofNat (List.length ss))),(31,.d (.int .i64) k)],[dObP p,dObO out,(30,0,.row 3 (.int .i64) ss false)]⟩
def labB:Lab:=⟨[1,3,4,5,7,21,22,29,30,31],[(5,106)]⟩
def stB9 (p:El Zc) (l:List (El Zb)) (out:List (El Zd)) (t:Int) (m:Nat) (ss:List Int) (k s:Int):St:=
 ⟨mkTm 126 [(1,.pt 2 0 0),(3,.d (.sl Zb) l),(4,.own 5 0 none),(5,.d (.int .i64) t),(7,.cst (.map (some m))),(9,.d (.int .i64) s),(21,.d (.int .i64) (Int.ofNat (List.length p.2))),(22,.d (.int .i64) t),(29,.own 30 0 none),(30,.d (.int .i64) (Int.ofNat (List.length ss))),(31,.d (.int .i64) k)],[dObP p,dObO out,(30,0,.row 3 (.int .i64) ss false)]⟩
def labB9:Lab:=⟨[1,3,4,5,7,9,21,22,29,30,31],[(5,106)]⟩
def stB10 (p:El Zc) (l:List (El Zb)) (out:List (El Zd)) (t:Int) (m:Nat) (ss:List Int) (k s:Int) (fr:SetD):St:=
 ⟨mkTm 126 [(1,.pt 2 0 0),(3,.d (.sl Zb) l),(4,.own 5 0 none),(5,.d (.int .i64) t),(7,.cst (.map (some m))),(9,.d (.int .i64) s),(10,.pt 11 0 0),(21,.d (.int .i64) (Int.ofNat (List.length p.2))),(22,.d (.int .i64) t),(29,.own 30 0 none),(30,.d (.int .i64) (Int.ofNat (List.length ss))),(31,.d (.int .i64) k)],[dObP p,dObO out,(11,0,.box 107 [.d (.int .i64) fr.1,.mp 11266 0] none),(30,0,.row 3 (.int .i64) ss false),(11266,0,.map (.int .i64) (.int .u64) fr.2)]⟩
def labB10:Lab:=⟨[1,3,4,5,7,9,10,21,22,29,30,31],[(5,106)]⟩
def stC (p:El Zc) (l:List (El Zb)) (out:List (El Zd)) (t:Int) (m:Nat) (ss:List Int) (k s:Int) (fr:SetD) (fs:List Int) (j:Int):St:=
 ⟨mkTm 126 [(1,.pt 2 0 0),(3,.d (.sl Zb) l),(4,.own 5 0 none),(5,.d (.int .i64) t),(7,.cst (.map (some m))),(9,.d (.int .i64) s),(10,.pt 11 0 0),(21,.d (.int .i64) (Int.ofNat (List.length p.2))),(22,.d (.int .i64) t),(29,.own 30 0 none),(30,.d (.int .i64) (Int.ofNat (List.length ss))),(31,.d (.int .i64) k),(53,.own 54 0 none),(54,.d (.int .i64) (Int.ofNat (List.length fs))),(55,.d (.int .i64) j)],[dObP p,dObO out,(11,0,.box 107 [.d (.int .i64) fr.1,.mp 11266 0] none),(30,0,.row 3 (.int .i64) ss false),(54,0,.row 3 (.int .i64) fs false),(11266,0,.map (.int .i64) (.int .u64) fr.2)]⟩
def labC:Lab:=⟨[1,3,4,5,7,9,10,21,22,29,30,31,53,54,55],[(5,106)]⟩
def stD (p:El Zc) (l:List (El Zb)) (out:List (El Zd)) (t:Int) (m:Nat) (ss:List Int) (k s:Int) (fr:SetD) (ls:List Int) (j:Int):St:=
 ⟨mkTm 126 [(1,.pt 2 0 0),(3,.d (.sl Zb) l),(4,.own 5 0 none),(5,.d (.int .i64) t),(7,.cst (.map (some m))),(9,.d (.int .i64) s),(10,.pt 11 0 0),(21,.d (.int .i64) (Int.ofNat (List.length p.2))),(22,.d (.int .i64) t),(29,.own 30 0 none),(30,.d (.int .i64) (Int.ofNat (List.length ss))),(31,.d (.int .i64) k),(65,.own 66 0 none),(66,.d (.int .i64) (Int.ofNat (List.length ls))),(67,.d (.int .i64) j)],[dObP p,dObO out,(11,0,.box 107 [.d (.int .i64) fr.1,.mp 11266 0] none),(30,0,.row 3 (.int .i64) ss false),(66,0,.row 3 (.int .i64) ls false),(11266,0,.map (.int .i64) (.int .u64) fr.2)]⟩
def labD:Lab:=⟨[1,3,4,5,7,9,10,21,22,29,30,31,65,66,67],[(5,106)]⟩
def stD14 (p:El Zc) (l:List (El Zb)) (out:List (El Zd)) (t:Int) (m:Nat) (ss:List Int) (k s:Int) (fr:SetD) (ls:List Int) (j r:Int):St:=
 ⟨mkTm 126 [(1,.pt 2 0 0),(3,.d (.sl Zb) l),(4,.own 5 0 none),(5,.d (.int .i64) t),(7,.cst (.map (some m))),(9,.d (.int .i64) s),(10,.pt 11 0 0),(14,.d (.int .i64) r),(21,.d (.int .i64) (Int.ofNat (List.length p.2))),(22,.d (.int .i64) t),(29,.own 30 0 none),(30,.d (.int .i64) (Int.ofNat (List.length ss))),(31,.d (.int .i64) k),(65,.own 66 0 none),(66,.d (.int .i64) (Int.ofNat (List.length ls))),(67,.d (.int .i64) j)],[dObP p,dObO out,(11,0,.box 107 [.d (.int .i64) fr.1,.mp 11266 0] none),(30,0,.row 3 (.int .i64) ss false),(66,0,.row 3 (.int .i64) ls false),(11266,0,.map (.int .i64) (.int .u64) fr.2)]⟩
def labD14:Lab:=⟨[1,3,4,5,7,9,10,14,21,22,29,30,31,65,66,67],[(5,106)]⟩
def stE (p:El Zc) (l:List (El Zb)) (out:List (El Zd)) (t:Int) (m:Nat) (ss:List Int) (k s:Int) (fr:SetD) (ls:List Int) (j r:Int) (bs:List Int) (i:Int):St:=
 ⟨mkTm 126 [(1,.pt 2 0 0),(3,.d (.sl Zb) l),(4,.own 5 0 none),(5,.d (.int .i64) t),(7,.cst (.map (some m))),(9,.d (.int .i64) s),(10,.pt 11 0 0),(14,.d (.int .i64) r),(21,.d (.int .i64) (Int.ofNat (List.length p.2))),(22,.d (.int .i64) t),(29,.own 30 0 none),(30,.d (.int .i64) (Int.ofNat (List.length ss))),(31,.d (.int .i64) k),(65,.own 66 0 none),(66,.d (.int .i64) (Int.ofNat (List.length ls))),(67,.d (.int .i64) j),(90,.own 91 0 none),(91,.d (.int .i64) (Int.ofNat (List.length bs))),(92,.d (.int .i64) i)],[dObP p,dObO out,(11,0,.box 107 [.d (.int .i64) fr.1,.mp 11266 0] none),(30,0,.row 3 (.int .i64) ss false),(66,0,.row 3 (.int .i64) ls false),(91,0,.row 3 (.int .i64) bs false),(11266,0,.map (.int .i64) (.int .u64) fr.2)]⟩
def labE:Lab:=⟨[1,3,4,5,7,9,10,14,21,22,29,30,31,65,66,67,90,91,92],[(5,106)]⟩
end
end Go.Ev
end

section
open Go Go.Ev
namespace Go.Ev
noncomputable section
abbrev dEv (c:Code) (lab:Lab) (s s':St):Prop:=∀(L:Lt) (k:Kt) (x:Nat→Kt) (r:Kt),evC Go.Proofs.Tryz.prog (clOf dpT) [] L c 0 (fun t=>k (norm Go.Proofs.Tryz.prog lab t)) x r s=k s'
abbrev dEvI (c:Code) (s s':St):Prop:=∀(L:Lt) (k:Kt) (x:Nat→Kt) (r:Kt),evC Go.Proofs.Tryz.prog (clOf dpT) [] L c 0 (fun t=>k t) x r s=k s'
abbrev dEvG (c:Code) (lab:Lab) (s s':St) (b:Bool):Prop:=∀(L:Lt) (k:Kt) (x:Nat→Kt) (r:Kt),evC Go.Proofs.Tryz.prog (clOf dpT) [] L c 0 (fun t=>k (norm Go.Proofs.Tryz.prog lab t)) x r s=bif b then k s' else none
theorem dEvG.ok {c:Code} {lab:Lab} {s s':St} {b:Bool} (h:dEvG c lab s s' b) (hb:b=true):dEv c lab s s':=fun L k x r=>by rw[h,hb];rfl
section
variable (p:El Zc) (l:List (El Zb)) (out:List (El Zd)) (t:Int) (m:Nat) (ss:List Int) (k s:Int) (fr:SetD) (fs:List Int) (j:Int) (ls:List Int) (r:Int) (bs:List Int) (i:Int) (b:Bool)
def dS0:St:=⟨.ag [.d (.sl Zy) p.1,.d (.sl (.sl Za)) p.2] :: tops 125,[]⟩
def dS1:St:=⟨mkTm 126 [(1,.pt 2 0 0)],[dObP p]⟩
def dS2:St:=⟨mkTm 126 [(1,.pt 2 0 0),(3,.d (.sl Zb) l)],[dObP p]⟩
def dS3:St:=⟨mkTm 126 [(1,.pt 2 0 0),(3,.d (.sl Zb) l),(4,.own 5 0 none)],[dObP p,dObO []]⟩
@[reducible] def inB (i:Int) (n:Nat):Bool:=decide ((0:Int)≤i)&&decide (i < Int.ofNat n)
theorem dp_0:dEv dp0 ⟨[1],[]⟩ (dS0 p) (dS1 p):=fun L k x r=>by kernel_rfl
theorem dp_1:dEvG dp1 ⟨[1,3],[]⟩ (dS1 p) (dS2 p (ZD p)) (Zpx p):=fun L k x r=>by kernel_rfl
theorem dp_2:dEv dp2 ⟨[1,3,4],[(5,106)]⟩ (dS2 p l) (dS3 p l):=fun L k x r=>by kernel_rfl
theorem dp_3:dEv dp3 labA (dS3 p l) (stA p l [] 0):=fun L k x r=>by kernel_rfl
theorem ZTc:dEvI (lpR1 dpK0) (stA p l out t) ((stA p l out t).put (some 23) (.d .bool (decide (t < Int.ofNat (List.length p.2))))):=fun L k x r=>by kernel_rfl
theorem dp_4:dEv dp4 labA5 ((stA p l out t).put (some 23) (.d .bool b)) (stA5 p l out t):=fun L k x r=>by kernel_rfl
theorem ZTe:dEvI (lpR1 dpK2) (stB p l out t m ss k) ((stB p l out t m ss k).put (some 32) (.d .bool (decide (k < Int.ofNat (List.length ss))))):=fun L k x r=>by kernel_rfl
theorem dp_7:dEvG dp7 labB9 ((stB p l out t m ss k).put (some 32) (.d .bool b)) (stB9 p l out t m ss k (List.getD ss (Int.toNat k) (dflt (.int .i64)))) (inB k (List.length ss)):=fun L k x r=>by kernel_rfl
theorem dp_8:dEvG dp8 labB10 (stB9 p l out t m ss k s) (stB10 p l out t m ss k s (Zz (Int.ofNat (List.length (List.getD p.2 (Int.toNat t) (dflt (.sl Za))))))) (inB t (List.length p.2)):=fun L k x r=>by kernel_rfl
theorem dp_9:dEvG dp9 labC (stB10 p l out t m ss k s fr) (stC p l out t m ss k s fr (ZbI (List.getD p.2 (Int.toNat t) (dflt (.sl Za))) (List.getD l (Int.toNat s) (dflt Zb)).2.1) 0) (bif inB t (List.length p.2) then (bif inB s (List.length l) then Zjh (List.getD p.2 (Int.toNat t) (dflt (.sl Za))) (List.getD l (Int.toNat s) (dflt Zb)).2.1 else false) else false):=fun L k x r=>by
 rw[show ∀(a b c:Bool) (u:Option Ans),(bif (bif a then (bif b then c else false) else false) then u else none)=(bif a then (bif b then (bif c then u else none) else none) else none) from fun a b c u=>by cases a <;> cases b <;> rfl]
 kernel_rfl
theorem ZTh:dEvI (lpR1 dpK4) (stC p l out t m ss k s fr fs j) ((stC p l out t m ss k s fr fs j).put (some 56) (.d .bool (decide (j < Int.ofNat (List.length fs))))):=fun L k x r=>by kernel_rfl
theorem ZTx:dEvG (lpB dpK4) labC ((stC p l out t m ss k s fr fs j).put (some 56) (.d .bool b)) (stC p l out t m ss k s (Zr fr (List.getD fs (Int.toNat j) (dflt (.int .i64)))).2 fs j) (inB j (List.length fs)):=fun L k x r=>by kernel_rfl
theorem ZTq:dEv (lpR2 dpK4) labC (stC p l out t m ss k s fr fs j) (stC p l out t m ss k s fr fs (IntKind.i64.wrap (j+1))):=fun L k x r=>by kernel_rfl
theorem ZTk:dEvG dp10 labD ((stC p l out t m ss k s fr fs j).put (some 56) (.d .bool b)) (stD p l out t m ss k s fr (ZT l t false) 0) (Zd4 l t false):=fun L k x r=>by kernel_rfl
theorem ZTg:dEvI (lpR1 dpK6) (stD p l out t m ss k s fr ls j) ((stD p l out t m ss k s fr ls j).put (some 68) (.d .bool (decide (j < Int.ofNat (List.length ls))))):=fun L k x r=>by kernel_rfl
theorem ZTs:dEvG dp11 labD14 ((stD p l out t m ss k s fr ls j).put (some 68) (.d .bool b)) (stD14 p l out t m ss k s fr ls j (List.getD ls (Int.toNat j) (dflt (.int .i64)))) (inB j (List.length ls)):=fun L k x r=>by kernel_rfl
def labD78:Lab:=⟨[1,3,4,5,7,9,10,14,21,22,29,30,31,65,66,67,78],[(5,106)]⟩
theorem ZTl:dEvG dp12 labD78 (stD14 p l out t m ss k s fr ls j r) ((stD14 p l out t m ss k s fr ls j r).put (some 78) (.d .bool (! (Zq fr (List.getD l (Int.toNat r) (dflt Zb)).2.1).1))) (inB r (List.length l)):=fun L k x r=>by kernel_rfl
theorem dn_D:norm Go.Proofs.Tryz.prog labD ((stD14 p l out t m ss k s fr ls j r).put (some 78) (.d .bool b))=stD p l out t m ss k s fr ls j:=by kernel_rfl
theorem ZS4:norm Go.Proofs.Tryz.prog labD14 ((stD14 p l out t m ss k s fr ls j r).put (some 78) (.d .bool b))=stD14 p l out t m ss k s fr ls j r:=by kernel_rfl
theorem ZTj:dEv (lpR2 dpK6) labD (stD p l out t m ss k s fr ls j) (stD p l out t m ss k s fr ls (IntKind.i64.wrap (j+1))):=fun L k x r=>by kernel_rfl
theorem ZTf:dEvG dp15 labE (stD14 p l out t m ss k s fr ls j r) (stE p l out t m ss k s fr ls j r (ZbU p r) 0) (Zic p r):=fun L k x r=>by kernel_rfl
theorem ZTp:dEvI (lpR1 dpK8) (stE p l out t m ss k s fr ls j r bs i) ((stE p l out t m ss k s fr ls j r bs i).put (some 93) (.d .bool (decide (i < Int.ofNat (List.length bs))))):=fun L k x r=>by kernel_rfl
def labE16:Lab:=⟨[1,3,4,5,7,9,10,14,16,21,22,29,30,31,65,66,67,90,91,92],[(5,106)]⟩
theorem ZTt:dEvG dp18 labE16 ((stE p l out t m ss k s fr ls j r bs i).put (some 93) (.d .bool b)) ((stE p l out t m ss k s fr ls j r bs i).put (some 16) (.d (.int .i64) (List.getD bs (Int.toNat i) (dflt (.int .i64))))) (inB i (List.length bs)):=fun L k x r=>by kernel_rfl
theorem ZTv:dEv (lpR2 dpK8) labE (stE p l out t m ss k s fr ls j r bs i) (stE p l out t m ss k s fr ls j r bs (IntKind.i64.wrap (i+1))):=fun L k x r=>by kernel_rfl
theorem ZTb:norm Go.Proofs.Tryz.prog labD14 ((stE p l out t m ss k s fr ls j r bs i).put (some 93) (.d .bool b))=stD14 p l out t m ss k s fr ls j r:=by kernel_rfl
theorem ZTr:dEv (lpR2 dpK2) labB ((stD p l out t m ss k s fr ls j).put (some 68) (.d .bool b)) (stB p l out t m ss (IntKind.i64.wrap (k+1))):=fun L k x r=>by kernel_rfl
theorem ZTn:dEv (lpR2 dpK0) labA ((stB p l out t m ss k).put (some 32) (.d .bool b)) (stA p l out (IntKind.i64.wrap (t+1))):=fun L k x r=>by kernel_rfl
end
end
end Go.Ev
end

section
open Go Go.Ev
namespace Go.Ev
noncomputable section
section
variable [Orgs] {Mod F0:Nat→Prop} {w0:World} {h:HS} {a:Act} {w:World} {Q:Exit→Act→World→Prop}
variable {p:El Zc} {l:List (El Zb)} {out:List (El Zd)} {t:Int} {m:Nat} {ss:List Int} {k s:Int} {fr:SetD} {fs:List Int} {j:Int} {ls:List Int} {r:Int} {bs:List Int} {i x:Int} {b:Bool}
theorem dcl:Spec Go.Proofs.Tryz.prog (clOf dpT)∧DetC (clOf dpT):=ZqZ ZSR
abbrev dProg:Program:=Go.Proofs.Tryz.prog
def cOf (o:Oper):Call:=match o.op with |.call c=>c | _=>default
def st5a (p:El Zc) (l:List (El Zb)) (out:List (El Zd)) (t:Int):St:=((stA5 p l out t).put (some 25) (.d (.sl Zb) l)).put (some 26) (.d (.int .i64) t)
def st5b (p:El Zc) (l:List (El Zb)) (out:List (El Zd)) (t:Int) (ss:List Int):St:=((st5a p l out t).setOb 28 0 (.row 3 (.int .i64) ss false)).put (some 27) (.own 28 0 none)
def st5c (p:El Zc) (l:List (El Zb)) (out:List (El Zd)) (t:Int) (ss:List Int) (m:Nat):St:=(((st5b p l out t ss).put (some 28) (.cst (.map (some m)))).put (some 6) (.own 28 0 none)).put (some 7) (.cst (.map (some m)))
theorem ZTo (k:St→Option Ans):opA dProg (clOf dpT) (opC dp5 2) (st5a p l out t) k=bif Zd4 l t true then k (st5b p l out t (ZT l t true)) else none:=by kernel_rfl
theorem dp_6:dEv dp6 labB (st5c p l out t ss m) (stB p l out t m ss 0):=fun L k x r=>by kernel_rfl
theorem w_5 (hk:Zd4 l t true=true) (hr:Rel Mod F0 w0 (stA5 p l out t) a w) (hQ:∀m a' w',RelH 107 Mod F0 w0 ⟨m,[]⟩ (st5c p l out t (ZT l t true) m) a' w'→Q .normal a' w'):(Code.region (ridC dp5) (ropsC dp5) false).wp dProg Q a w:=by
 refine wp_region ?_
 rw[show List.range (ropsC dp5).size=[0,1,2,3,4,5] from by kernel_rfl]
 refine evOp dcl.1 (o:=opC dp5 0) (st1:=(stA5 p l out t).put (some 25) (.d (.sl Zb) l)) (by kernel_rfl) (by kernel_rfl) (fun k=>by kernel_rfl) hr fun a w hr=>?_
 refine evOp dcl.1 (o:=opC dp5 1) (st1:=st5a p l out t) (by kernel_rfl) (by kernel_rfl) (fun k=>by kernel_rfl) hr fun a w hr=>?_
 refine evOp dcl.1 (o:=opC dp5 2) (st1:=st5b p l out t (ZT l t true)) (by kernel_rfl) (by kernel_rfl) (fun k=>by rw[ZTo,hk];rfl) hr fun a w hr=>?_
 refine handOp (o:=opC dp5 3) (by kernel_rfl) (by kernel_rfl) ?_
 refine makeMapH (T:=107) (TM:=78) (by kernel_rfl) hr fun m a w hr=>?_
 rw[show (opC dp5 3).dst=some 28 from by kernel_rfl] at hr
 refine evOpH dcl.1 (o:=opC dp5 4) (st1:=((st5b p l out t (ZT l t true)).put (some 28) (.cst (.map (some m)))).put (some 6) (.own 28 0 none)) (by kernel_rfl) (by kernel_rfl) (fun k=>by kernel_rfl) hr fun a w hr=>?_
 refine evOpH dcl.1 (o:=opC dp5 5) (st1:=st5c p l out t (ZT l t true) m) (by kernel_rfl) (by kernel_rfl) (fun k=>by kernel_rfl) hr fun a w hr=>?_
 exact hQ m a w hr
def st13 (p:El Zc) (l:List (El Zb)) (out:List (El Zd)) (t:Int) (m:Nat) (ss:List Int) (k s:Int) (fr:SetD) (ls:List Int) (j r:Int) (v:Value) (b:Bool):St:=
 ((((stD14 p l out t m ss k s fr ls j r).put (some 79) (.cst (.map (some m)))).put (some 80) (.d (.int .i64) r)).put (some 81) (.cst v)).put (some 82) (.d .bool b)
theorem ZTm (v:Value):norm dProg labD14 (st13 p l out t m ss k s fr ls j r v b)=stD14 p l out t m ss k s fr ls j r:=by kernel_rfl
theorem w_13 (hr:RelH 107 Mod F0 w0 h (stD14 p l out t h.m ss k s fr ls j r) a w) (hQ:∀a' w',RelH 107 Mod F0 w0 h (st13 p l out t h.m ss k s fr ls j r (ptrOf (h.at_ r)) (h.at_ r).isNone) a' w'→Q .normal a' w'):(Code.region (ridC dp13) (ropsC dp13) false).wp dProg Q a w:=by
 refine wp_region ?_
 rw[show List.range (ropsC dp13).size=[0,1,2,3] from by kernel_rfl]
 refine evOpH dcl.1 (o:=opC dp13 0) (st1:=(stD14 p l out t h.m ss k s fr ls j r).put (some 79) (.cst (.map (some h.m)))) (by kernel_rfl) (by kernel_rfl) (fun k=>by kernel_rfl) hr fun a w hr=>?_
 refine evOpH dcl.1 (o:=opC dp13 1) (st1:=((stD14 p l out t h.m ss k s fr ls j r).put (some 79) (.cst (.map (some h.m)))).put (some 80) (.d (.int .i64) r)) (by kernel_rfl) (by kernel_rfl) (fun k=>by kernel_rfl) hr fun a w hr=>?_
 refine handOp (o:=opC dp13 2) (by kernel_rfl) (by kernel_rfl) ?_
 refine lookupH (TM:=78) (K:=3) (V:=79) (x:=.tmp 79) (k:=.tmp 80) (key:=r) (by kernel_rfl) (by kernel_rfl) (by kernel_rfl) (by kernel_rfl) (by kernel_rfl) (by kernel_rfl) hr fun a w hr=>?_
 rw[show (opC dp13 2).dst=some 81 from by kernel_rfl] at hr
 refine handOp (o:=opC dp13 3) (by kernel_rfl) (by kernel_rfl) ?_
 refine eqNilH (TT:=79) (TT':=(match (opC dp13 3).op with |.binOp _ _ _ _ T=>T | _=>0)) (E:=(match dProg.underlying 79 with | some (.pointer E)=>E | _=>0)) (x:=.tmp 81) (y:=.const (.pointer none)) (s:=h.at_ r) (by kernel_rfl) (by kernel_rfl) (by kernel_rfl) (by kernel_rfl) hr fun a w hr=>?_
 rw[show (opC dp13 3).dst=some 82 from by kernel_rfl] at hr
 exact hQ a w hr
def st14 (p:El Zc) (l:List (El Zb)) (out:List (El Zd)) (t:Int) (m:Nat) (ss:List Int) (k s:Int) (fr:SetD) (ls:List Int) (j r:Int):St:=
 ((((stD14 p l out t m ss k s fr ls j r).put (some 83) (.cst (.map (some m)))).put (some 84) (.d (.int .i64) r)).put (some 85) (.d (.sl Zb) l)).put (some 86) (.d (.int .i64) (Int.ofNat (List.length l)))
def st14b (p:El Zc) (l:List (El Zb)) (out:List (El Zd)) (t:Int) (m:Nat) (ss:List Int) (k s:Int) (fr:SetD) (ls:List Int) (j r:Int) (d:SetD):St:=
 (((st14 p l out t m ss k s fr ls j r).setOb 90114 0 (.map (.int .i64) (.int .u64) d.2)).setOb 88 0 (.box 107 [.d (.int .i64) d.1,.mp 90114 0] none)).put (some 87) (.pt 88 0 0)
theorem ZTA (d:SetD) (o:Option Nat) (ho:o=none):norm dProg labD14 ((dropIds [88,90114] (st14b p l out t m ss k s fr ls j r d)).put o .top)=stD14 p l out t m ss k s fr ls j r:=by
 subst ho
 kernel_rfl
theorem w_14 (hn:h.at_ r=none) (hr:RelH 107 Mod F0 w0 h (stD14 p l out t h.m ss k s fr ls j r) a w)
  (hQ:∀e a' w',e.key=r→(e.n,e.l)=Zz (Int.ofNat (List.length l))→RelH 107 Mod F0 w0 ⟨h.m,h.es++[e]⟩ (stD14 p l out t h.m ss k s fr ls j r) a' w'→Q .normal a' w'):(Code.region (ridC dp14) (ropsC dp14) false).wp dProg Q a w:=by
 refine wp_region ?_
 rw[show List.range (ropsC dp14).size=[0,1,2,3,4,5] from by kernel_rfl]
 refine evOpH dcl.1 (o:=opC dp14 0) (st1:=(stD14 p l out t h.m ss k s fr ls j r).put (some 83) (.cst (.map (some h.m)))) (by kernel_rfl) (by kernel_rfl) (fun k=>by kernel_rfl) hr fun a w hr=>?_
 refine evOpH dcl.1 (o:=opC dp14 1) (st1:=((stD14 p l out t h.m ss k s fr ls j r).put (some 83) (.cst (.map (some h.m)))).put (some 84) (.d (.int .i64) r)) (by kernel_rfl) (by kernel_rfl) (fun k=>by kernel_rfl) hr fun a w hr=>?_
 refine evOpH dcl.1 (o:=opC dp14 2) (st1:=(((stD14 p l out t h.m ss k s fr ls j r).put (some 83) (.cst (.map (some h.m)))).put (some 84) (.d (.int .i64) r)).put (some 85) (.d (.sl Zb) l)) (by kernel_rfl) (by kernel_rfl) (fun k=>by kernel_rfl) hr fun a w hr=>?_
 refine evOpH dcl.1 (o:=opC dp14 3) (st1:=st14 p l out t h.m ss k s fr ls j r) (by kernel_rfl) (by kernel_rfl) (fun k=>by kernel_rfl) hr fun a w hr=>?_
 refine evOpH dcl.1 (o:=opC dp14 4) (st1:=st14b p l out t h.m ss k s fr ls j r (Zz (Int.ofNat (List.length l)))) (by kernel_rfl) (by kernel_rfl) (fun k=>by kernel_rfl) hr fun a w hr=>?_
 refine handOp (o:=opC dp14 5) (by kernel_rfl) (by kernel_rfl) ?_
 refine putH (TM:=78) (K:=3) (V:=79) (x:=.tmp 83) (k:=.tmp 84) (v:=.tmp 87) (key:=r) (id:=88) (ver:=0) (id2:=90114) (ver2:=0) (tg:=none) (n:=(Zz (Int.ofNat (List.length l))).1) (l:=(Zz (Int.ofNat (List.length l))).2)
  (by kernel_rfl) (by kernel_rfl) (by kernel_rfl) (by kernel_rfl) (by kernel_rfl) (by kernel_rfl) (by kernel_rfl) (by kernel_rfl) (by decide) hn hr fun b mb a w hr=>?_
 exact hQ _ a w rfl rfl (RelH.norm (ZTA _ _ (by kernel_rfl)) hr)
def st19 (p:El Zc) (l:List (El Zb)) (out:List (El Zd)) (t:Int) (m:Nat) (ss:List Int) (k s:Int) (fr:SetD) (ls:List Int) (j r:Int) (bs:List Int) (i x:Int) (v:Value):St:=
 (((((stE p l out t m ss k s fr ls j r bs i).put (some 16) (.d (.int .i64) x)).put (some 96) (.cst (.map (some m)))).put (some 97) (.d (.int .i64) r)).put (some 98) (.cst v)).put (some 99) (.d (.int .i64) x)
theorem ZTd (v:Value) (o:Option Nat) (ho:o=some 100):norm dProg labE ((st19 p l out t m ss k s fr ls j r bs i x v).put o (.d .bool b))=stE p l out t m ss k s fr ls j r bs i:=by
 subst ho
 kernel_rfl
theorem w_19 {e:SE} (he:h.at_ r=some e) (hr:RelH 107 Mod F0 w0 h ((stE p l out t h.m ss k s fr ls j r bs i).put (some 16) (.d (.int .i64) x)) a w)
  (hQ:∀h' a' w',h'.m=h.m→h'.cont=putC h.cont r (Zr (e.n,e.l) x).2→RelH 107 Mod F0 w0 h' (stE p l out t h'.m ss k s fr ls j r bs i) a' w'→Q .normal a' w'):(Code.region (ridC dp19) (ropsC dp19) false).wp dProg Q a w:=by
 refine wp_region ?_
 rw[show List.range (ropsC dp19).size=[0,1,2,3,4] from by kernel_rfl]
 refine evOpH dcl.1 (o:=opC dp19 0) (st1:=((stE p l out t h.m ss k s fr ls j r bs i).put (some 16) (.d (.int .i64) x)).put (some 96) (.cst (.map (some h.m)))) (by kernel_rfl) (by kernel_rfl) (fun k=>by kernel_rfl) hr fun a w hr=>?_
 refine evOpH dcl.1 (o:=opC dp19 1) (st1:=(((stE p l out t h.m ss k s fr ls j r bs i).put (some 16) (.d (.int .i64) x)).put (some 96) (.cst (.map (some h.m)))).put (some 97) (.d (.int .i64) r)) (by kernel_rfl) (by kernel_rfl) (fun k=>by kernel_rfl) hr fun a w hr=>?_
 refine handOp (o:=opC dp19 2) (by kernel_rfl) (by kernel_rfl) ?_
 refine lookupH (TM:=78) (K:=3) (V:=79) (x:=.tmp 96) (k:=.tmp 97) (key:=r) (by kernel_rfl) (by kernel_rfl) (by kernel_rfl) (by kernel_rfl) (by kernel_rfl) (by kernel_rfl) hr fun a w hr=>?_
 rw[show (opC dp19 2).dst=some 98 from by kernel_rfl] at hr
 refine evOpH dcl.1 (o:=opC dp19 3) (st1:=st19 p l out t h.m ss k s fr ls j r bs i x (ptrOf (h.at_ r))) (by kernel_rfl) (by kernel_rfl) (fun k=>by kernel_rfl) hr fun a w hr=>?_
 refine handOp (o:=opC dp19 4) (by kernel_rfl) (by kernel_rfl) ?_
 have hnd:(h.es.map SE.key).Nodup:=by obtain ⟨_,_,_,_,_,_,hH,_⟩:=hr;exact hH.2.1
 have hC:CallOK dProg 53 [.bx 107 [.d (.int .i64) e.n,.mv (.int .i64) (.int .u64) e.l],.d (.int .i64) x] (ZgJ (Zr (e.n,e.l) x)):=ZOd Zcs fun k=>by kernel_rfl
 refine callSetH (c:=cOf (opC dp19 4)) (f:=53) (fn:=Go.Proofs.Tryz.f53) (body:=Go.Proofs.Tryz.f53.body.getD .skip) (x:=.tmp 98) (y:=.tmp 99) (key:=r) (i:=x) (by kernel_rfl) (by kernel_rfl) (by kernel_rfl) (by kernel_rfl) (by kernel_rfl) (by kernel_rfl) (by kernel_rfl) he (by kernel_rfl) hC hr fun A B mb' a w hAB hr=>?_
 refine hQ ⟨h.m,A++⟨r,e.b,mb',(Zr (e.n,e.l) x).2.1,(Zr (e.n,e.l) x).2.2⟩ :: B⟩ a w rfl ?_ (RelH.norm (ZTd _ _ (by kernel_rfl)) hr)
 have hk:=(ZQL he).2
 have:=ZRJ (A:=A) (B:=B) (e:=e) (b:=e.b) (mb:=mb') (n:=0) (n':=(Zr (e.n,e.l) x).2.1) (l':=(Zr (e.n,e.l) x).2.2) hk (by rw[←hAB];exact hnd) h.m h.m
 rw[this]
 have:(⟨h.m,A++e :: B⟩:HS)=h:=by cases h;simp only[HS.mk.injEq,true_and];exact hAB.symm
 rw[this]
def st16 (p:El Zc) (l:List (El Zb)) (out:List (El Zd)) (t:Int) (m:Nat) (ss:List Int) (k s:Int) (fr:SetD) (ls:List Int) (j r:Int) (v:Value) (b:Bool):St:=
 (((((stD14 p l out t m ss k s fr ls j r).put (some 102) (.cst (.map (some m)))).put (some 103) (.d (.int .i64) r)).put (some 104) (.cst v)).put (some 105) (.d (.int .i64) s)).put (some 106) (.d .bool b)
theorem ZTy (v:Value):norm dProg labD (st16 p l out t m ss k s fr ls j r v b)=stD p l out t m ss k s fr ls j:=by kernel_rfl
theorem w_16 {e:SE} (he:h.at_ r=some e) (hr:RelH 107 Mod F0 w0 h (stD14 p l out t h.m ss k s fr ls j r) a w)
  (hQ:∀h' a' w',h'.m=h.m→h'.cont=h.cont→RelH 107 Mod F0 w0 h' (st16 p l out t h'.m ss k s fr ls j r (ptrOf (h.at_ r)) (Zq (e.n,e.l) s).1) a' w'→Q .normal a' w'):(Code.region (ridC dp16) (ropsC dp16) false).wp dProg Q a w:=by
 refine wp_region ?_
 rw[show List.range (ropsC dp16).size=[0,1,2,3,4] from by kernel_rfl]
 refine evOpH dcl.1 (o:=opC dp16 0) (st1:=(stD14 p l out t h.m ss k s fr ls j r).put (some 102) (.cst (.map (some h.m)))) (by kernel_rfl) (by kernel_rfl) (fun k=>by kernel_rfl) hr fun a w hr=>?_
 refine evOpH dcl.1 (o:=opC dp16 1) (st1:=((stD14 p l out t h.m ss k s fr ls j r).put (some 102) (.cst (.map (some h.m)))).put (some 103) (.d (.int .i64) r)) (by kernel_rfl) (by kernel_rfl) (fun k=>by kernel_rfl) hr fun a w hr=>?_
 refine handOp (o:=opC dp16 2) (by kernel_rfl) (by kernel_rfl) ?_
 refine lookupH (TM:=78) (K:=3) (V:=79) (x:=.tmp 102) (k:=.tmp 103) (key:=r) (by kernel_rfl) (by kernel_rfl) (by kernel_rfl) (by kernel_rfl) (by kernel_rfl) (by kernel_rfl) hr fun a w hr=>?_
 rw[show (opC dp16 2).dst=some 104 from by kernel_rfl] at hr
 refine evOpH dcl.1 (o:=opC dp16 3) (st1:=((((stD14 p l out t h.m ss k s fr ls j r).put (some 102) (.cst (.map (some h.m)))).put (some 103) (.d (.int .i64) r)).put (some 104) (.cst (ptrOf (h.at_ r)))).put (some 105) (.d (.int .i64) s)) (by kernel_rfl) (by kernel_rfl) (fun k=>by kernel_rfl) hr fun a w hr=>?_
 refine handOp (o:=opC dp16 4) (by kernel_rfl) (by kernel_rfl) ?_
 have hnd:(h.es.map SE.key).Nodup:=by obtain ⟨_,_,_,_,_,_,hH,_⟩:=hr;exact hH.2.1
 have hC:CallOK dProg 54 [.bx 107 [.d (.int .i64) e.n,.mv (.int .i64) (.int .u64) e.l],.d (.int .i64) s] (ZgX (Zq (e.n,e.l) s)):=ZOd Ze0 fun k=>by kernel_rfl
 refine callSetH (c:=cOf (opC dp16 4)) (f:=54) (fn:=Go.Proofs.Tryz.f54) (body:=Go.Proofs.Tryz.f54.body.getD .skip) (x:=.tmp 104) (y:=.tmp 105) (key:=r) (i:=s) (by kernel_rfl) (by kernel_rfl) (by kernel_rfl) (by kernel_rfl) (by kernel_rfl) (by kernel_rfl) (by kernel_rfl) he (by kernel_rfl) hC hr fun A B mb' a w hAB hr=>?_
 rw[show (opC dp16 4).dst=some 106 from by kernel_rfl] at hr
 refine hQ ⟨h.m,A++⟨r,e.b,mb',(Zq (e.n,e.l) s).2.1,(Zq (e.n,e.l) s).2.2⟩ :: B⟩ a w rfl ?_ hr
 have hk:=(ZQL he).2
 unfold HS.cont
 rw[hAB]
 simp only[List.map_append,List.map_cons,hk]
 rfl
theorem ZTz (v:Value):dEvG dp17 labD (st16 p l out t m ss k s fr ls j r v b) (stD p l (out++[(t,((List.getD l (Int.toNat s) (dflt Zb)).2.1,(List.getD l (Int.toNat r) (dflt Zb)).2.1))]) t m ss k s fr ls j)
  (bif inB s (List.length l) then (bif inB r (List.length l) then Nat.ble ((List.length out+1)*24) limit else false) else false):=fun L k x r=>by
 rw[show ∀(a b c:Bool) (u:Option Ans),(bif (bif a then (bif b then c else false) else false) then u else none)=(bif a then (bif b then (bif c then u else none) else none) else none) from fun a b c u=>by cases a <;> cases b <;> rfl]
 kernel_rfl
end
end
end Go.Ev
end

section
open Go Go.Ev
namespace Go.Ev
noncomputable section
def putAll (d:SetD) (xs:List Int):SetD:=xs.foldl (fun d x=>(Zr d x).2) d
def dBack (p:El Zc) (l:List (El Zb)) (r:Int):SetD:=putAll (Zz (Int.ofNat (List.length l))) (ZbU p r)
abbrev OkS (p:El Zc) (l:List (El Zb)) (ms:SetsD):Prop:=∀r d,getC ms r=some d→d=dBack p l r
abbrev OkBut (p:El Zc) (l:List (El Zb)) (ms:SetsD) (r:Int):Prop:=∀r',r'≠r→∀d,getC ms r'=some d→d=dBack p l r'
theorem ZRC {ms:SetsD} {r:Int} {d d':SetD} (h:getC ms r=some d):getC (putC ms r d') r=some d':=by
 induction ms with
 | nil=>cases h
 | cons x ms ih=>
  unfold getC putC at*
  by_cases hx:x.1=r
  ·simp[hx]
  ·simp only[List.map_cons,hx,if_false]
   rw[List.find?_cons_of_neg (by simpa using hx)]
   rw[List.find?_cons_of_neg (by simpa using hx)] at h
   exact ih h
theorem ZNp {ms:SetsD} {r r':Int} {d':SetD} (hne:r'≠r):getC (putC ms r d') r'=getC ms r':=by
 induction ms with
 | nil=>rfl
 | cons x ms ih=>
  unfold getC putC at*
  by_cases hx:x.1=r
  ·have h1:¬r=r':=fun e=>hne e.symm
   have h2:¬x.1=r':=by rw[hx];exact h1
   simp only[List.map_cons,hx,if_true]
   rw[List.find?_cons_of_neg (by simpa using h1),List.find?_cons_of_neg (by simpa using h2)]
   exact ih
  ·simp only[List.map_cons,hx,if_false]
   by_cases hx':x.1=r'
   ·rw[List.find?_cons_of_pos (by simpa using hx'),List.find?_cons_of_pos (by simpa using hx')]
   ·rw[List.find?_cons_of_neg (by simpa using hx'),List.find?_cons_of_neg (by simpa using hx')]
    exact ih
theorem ZRU {ms:SetsD} {r:Int} {d:SetD} (h:getC ms r=none):getC (ms++[(r,d)]) r=some d:=by
 unfold getC at*
 rw[List.find?_append]
 rw[Option.map_eq_none_iff] at h
 rw[h]
 simp
theorem ZMO {ms:SetsD} {r r':Int} {d:SetD} (h:r'≠r):getC (ms++[(r,d)]) r'=getC ms r':=by
 unfold getC
 rw[List.find?_append]
 have:¬r=r':=fun e=>h e.symm
 simp[this]
theorem ZFT {i n:Nat} (h:i < n):inB (i:Int) n=true:=by
 unfold inB
 rw[decide_eq_true (Int.natCast_nonneg i),decide_eq_true (show (i:Int) < Int.ofNat n from Int.ofNat_lt.2 h)]
 rfl
theorem ZKQ (i n:Nat):decide ((i:Int) < Int.ofNat n)=decide (i < n):=decide_eq_decide.2 Int.ofNat_lt
section
variable [Orgs] {Mod F0:Nat→Prop} {w0:World} {h:HS} {a:Act} {w:World} {Q:Exit→Act→World→Prop}
variable {p:El Zc} {l:List (El Zb)} {out:List (El Zd)} {t:Int} {m:Nat} {ss:List Int} {k s:Int} {fr:SetD} {fs:List Int} {j:Int} {ls:List Int} {r:Int} {bs:List Int} {i x:Int} {b:Bool}
theorem w_K8 {d0:SetD} (hb:bs.length < 1000000000000) (ho:OkBut p l h.cont r) (hg:getC h.cont r=some d0) (hr:RelH 107 Mod F0 w0 h (stE p l out t h.m ss k s fr ls j r bs 0) a w)
  (hQ:∀h' a' w',OkBut p l h'.cont r→getC h'.cont r=some (putAll d0 bs)→RelH 107 Mod F0 w0 h' (stD14 p l out t h'.m ss k s fr ls j r) a' w'→Q .normal a' w'):dpK8.wp dProg Q a w:=by
 rw[ZSy]
 refine forLoop (fun i a w=>∃h:HS,OkBut p l h.cont r∧getC h.cont r=some (putAll d0 (bs.take i))∧RelH 107 Mod F0 w0 h (stE p l out t h.m ss k s fr ls j r bs (i:Int)) a w)
  (fun i a w=>∃h:HS,OkBut p l h.cont r∧getC h.cont r=some (putAll d0 (bs.take i))∧RelH 107 Mod F0 w0 h ((stE p l out t h.m ss k s fr ls j r bs (i:Int)).put (some 93) (.d .bool (decide ((i:Int) < Int.ofNat (List.length bs))))) a w)
  (fun i a w=>∃h:HS,OkBut p l h.cont r∧getC h.cont r=some (putAll d0 (bs.take (i+1)))∧RelH 107 Mod F0 w0 h (stE p l out t h.m ss k s fr ls j r bs (i:Int)) a w)
  bs.length (toGo 92 bs.length) ?_ ?_ ?_ ?_ ?_ ⟨h,ho,hg,hr⟩ ?_
 ·intro i a w hi ⟨h,ho,hg,hr⟩
  exact pieceH dcl.1 dcl.2 (fun s=>s) (fun h=>h) (ZTp _ _ _ _ _ _ _ _ _ _ _ _ _ _) hr fun a' w' hr'=>⟨rfl,h,ho,hg,hr'⟩
 ·intro i a w hi ⟨h,ho,hg,hr⟩
  rw[hr.evb (x:=.tmp 93) (b:=decide ((i:Int) < Int.ofNat (List.length bs))) (by kernel_rfl),ZKQ]
 ·intro i a w hi ⟨h,ho,hg,hr⟩
  rw[ZSK]
  refine wp_seq (pieceH dcl.1 dcl.2 (norm dProg labE16) (fun h=>Z4 h) ((ZTt p l out t h.m ss k s fr j ls r bs (i:Int) _).ok (ZFT hi)) hr fun a w hr=>?_)
  have hat:=ZNU h r
  rw[hg] at hat
  obtain ⟨e,he,hed⟩:=Option.map_eq_some_iff.1 hat
  refine w_19 he hr fun h' a' w' hm hc hr'=>⟨.inl rfl,h',fun r' hr1 d hd=>?_,?_,hr'⟩
  ·rw[hc,ZNp hr1] at hd
   exact ho r' hr1 d hd
  ·rw[hc,ZRC hg,hed,List.take_succ_eq_append_getElem hi]
   unfold putAll
   rw[List.foldl_append]
   simp only[List.foldl_cons,List.foldl_nil]
   rw[Int.toNat_natCast,List.getD_eq_getElem?_getD,List.getElem?_eq_getElem hi]
   rfl
 ·intro i a w hi ⟨h,ho,hg,hr⟩
  have e:=ZTv p l out t h.m ss k s fr j ls r bs (i:Int)
  rw[Zo (by omega)] at e
  exact pieceH dcl.1 dcl.2 (norm dProg labE) (fun h=>Z4 h) e hr fun a' w' hr'=>⟨rfl,h,ho,hg,hr'⟩
 ·intro i a w hi ⟨h,ho,hg,hr⟩
  unfold toGo
  rw[hr.ev (x:=.tmp 92) (k:=.i64) (n:=(i:Int)) (by kernel_rfl)]
  rfl
 ·intro a w ⟨h,ho,hg,hr⟩
  rw[List.take_length] at hg
  exact hQ h a w ho hg (hr.norm (ZTb _ _ _ _ _ _ _ _ _ _ _ _ _ _ _))
end
end
end Go.Ev
end

section
open Go Go.Ev
namespace Go.Ev
noncomputable section
def hitP (p:El Zc) (l:List (El Zb)) (s:Int) (fr:SetD) (r:Int):Bool:=(Zq fr (List.getD l (Int.toNat r) (dflt Zb)).2.1).1&&(Zq (dBack p l r) s).1
def oneP (p:El Zc) (l:List (El Zb)) (t s:Int) (fr:SetD) (r:Int):List (El Zd):=
 if hitP p l s fr r=true then [(t,((List.getD l (Int.toNat s) (dflt Zb)).2.1,(List.getD l (Int.toNat r) (dflt Zb)).2.1))] else []
section
variable [Orgs] {Mod F0:Nat→Prop} {w0:World} {h:HS} {a:Act} {w:World} {Q:Exit→Act→World→Prop}
variable {p:El Zc} {l:List (El Zb)} {out:List (El Zd)} {t:Int} {m:Nat} {ss:List Int} {k s:Int} {fr:SetD} {fs:List Int} {j:Int} {ls:List Int} {r:Int} {bs:List Int} {i x:Int} {b:Bool}
theorem ZHR {r:Int} {n:Nat} (h0:0≤r) (h1:r < (n:Int)):inB r n=true:=by
 unfold inB
 rw[decide_eq_true h0,decide_eq_true (show r < Int.ofNat n from h1)]
 rfl
theorem ZTw (hs:0≤s∧s < (l.length:Int)) (hrr:0≤r∧r < (l.length:Int)) (hlim:(out.length+1)*24≤limit) (hhas:(Zq fr (List.getD l (Int.toNat r) (dflt Zb)).2.1).1=true) (ho:OkS p l h.cont) (hg:getC h.cont r=some (dBack p l r))
  (hr:RelH 107 Mod F0 w0 h (stD14 p l out t h.m ss k s fr ls j r) a w) (hQ:∀h' a' w',OkS p l h'.cont→RelH 107 Mod F0 w0 h' (stD p l (out++oneP p l t s fr r) t h'.m ss k s fr ls j) a' w'→Q .normal a' w'):
  (Code.seq (.region (ridC dp16) (ropsC dp16) false) (.cond (.tmp 106) dp17 .skip)).wp dProg Q a w:=by
 have hat:=ZNU h r
 rw[hg] at hat
 obtain ⟨e,he,hed⟩:=Option.map_eq_some_iff.1 hat
 refine wp_seq (w_16 he hr fun h' a w hm hc hr=>?_)
 have ho':OkS p l h'.cont:=by rw[hc];exact ho
 have hone:hitP p l s fr r=(Zq (e.n,e.l) s).1:=by unfold hitP;rw[hhas,hed];rfl
 refine wp_cond_split (t:=(Zq (e.n,e.l) s).1) (hr.evb (x:=.tmp 106) (by kernel_rfl)) (fun ht=>?_) (fun hf=>?_)
 ·refine pieceH dcl.1 dcl.2 (norm dProg labD) (fun h=>Z4 h) ((ZTz _).ok ?_) hr fun a w hr=>hQ h' a w ho' ?_
  ·rw[ZHR hs.1 hs.2,ZHR hrr.1 hrr.2]
   exact Nat.ble_eq_true_of_le hlim
  ·unfold oneP
   rw[if_pos (hone.trans ht)]
   exact hr
 ·refine wp_skip (hQ h' a w ho' ?_)
  unfold oneP
  rw[if_neg (by rw[hone,hf];decide),List.append_nil]
  exact hr.norm (ZTy _)
theorem w_B7 {j:Nat} (hj:j < ls.length) (hrd:List.getD ls j (dflt (.int .i64))=r) (hs:0≤s∧s < (l.length:Int)) (hrr:0≤r∧r < (l.length:Int)) (hlim:(out.length+1)*24≤limit) (hkb:Zic p r=true) (hbl:(ZbU p r).length < 1000000000000) (ho:OkS p l h.cont)
  (hr:RelH 107 Mod F0 w0 h ((stD p l out t h.m ss k s fr ls (j:Int)).put (some 68) (.d .bool b)) a w):
  (lpB dpK6).wp dProg (fun e a' w'=>(e=.normal∨e=.exit 7)∧∃h':HS,OkS p l h'.cont∧RelH 107 Mod F0 w0 h' (stD p l (out++oneP p l t s fr r) t h'.m ss k s fr ls (j:Int)) a' w') a w:=by
 rw[ZSb]
 refine wp_seq (pieceH dcl.1 dcl.2 (norm dProg labD14) (fun h=>Z4 h) ((ZTs p l out t h.m ss k s fr (j:Int) ls b).ok (ZFT hj)) hr fun a w hr=>?_)
 rw[Int.toNat_natCast,hrd] at hr
 refine wp_seq (wp_seq (pieceH dcl.1 dcl.2 (norm dProg labD78) (fun h=>Z4 h) ((ZTl p l out t h.m ss k s fr (j:Int) ls r).ok (ZHR hrr.1 hrr.2)) hr fun a w hr=>?_))
 refine wp_cond_split (t:=! (Zq fr (List.getD l (Int.toNat r) (dflt Zb)).2.1).1) (hr.evb (x:=.tmp 78) (by kernel_rfl)) (fun ht=>?_) (fun hf=>?_)
 ·-- not behind it
  refine wp_exit ⟨.inr rfl,h,ho,?_⟩
  have:¬hitP p l s fr r=true:=by
   unfold hitP
   rw[Bool.not_eq_true'] at ht
   rw[ht,Bool.false_and];exact Bool.false_ne_true
  unfold oneP
  rw[if_neg this,List.append_nil]
  exact hr.norm (dn_D _ _ _ _ _ _ _ _ _ _ _ _ _)
 refine wp_skip ?_
 have hhas:(Zq fr (List.getD l (Int.toNat r) (dflt Zb)).2.1).1=true:=by simpa using hf
 have hr:=hr.norm (ZS4 p l out t h.m ss k s fr (j:Int) ls r _)
 have fin:∀(h':HS) (a:Act) (w:World),OkS p l h'.cont→getC h'.cont r=some (dBack p l r)→RelH 107 Mod F0 w0 h' (stD14 p l out t h'.m ss k s fr ls (j:Int) r) a w→
   (Code.seq (.region (ridC dp16) (ropsC dp16) false) (.cond (.tmp 106) dp17 .skip)).wp dProg (fun e a' w'=>(e=.normal∨e=.exit 7)∧∃h':HS,OkS p l h'.cont∧RelH 107 Mod F0 w0 h' (stD p l (out++oneP p l t s fr r) t h'.m ss k s fr ls (j:Int)) a' w') a w:=fun h' a w ho hg hr=>
  ZTw hs hrr hlim hhas ho hg hr fun h'' a'' w'' ho'' hr''=>⟨.inl rfl,h'',ho'',hr''⟩
 refine wp_seq (wp_seq (w_13 hr fun a w hr=>?_))
 have hev:=hr.evb (x:=.tmp 82) (b:=(h.at_ r).isNone) (by kernel_rfl)
 have hr:=hr.norm (ZTm _)
 have hat:=ZNU h r
 cases hc:h.at_ r with
 | none=>
  rw[hc] at hev hat
  refine wp_cond_true hev (wp_seq (w_14 hc hr fun e a w hek hed hr=>?_))
  refine wp_seq (pieceH dcl.1 dcl.2 (norm dProg labE) (fun h=>Z4 h) ((ZTf p l out t h.m ss k s fr (j:Int) ls r).ok hkb) hr fun a w hr=>?_)
  have hnone:getC h.cont r=none:=hat.symm
  have hcont:(⟨h.m,h.es++[e]⟩:HS).cont=h.cont++[(r,Zz (Int.ofNat (List.length l)))]:=by
   unfold HS.cont
   rw[List.map_append]
   simp only[List.map_cons,List.map_nil,hek]
   rw[show (e.n,e.l)=Zz (Int.ofNat (List.length l)) from hed]
  refine w_K8 (h:=⟨h.m,h.es++[e]⟩) (d0:=Zz (Int.ofNat (List.length l))) hbl ?_ ?_ hr fun h' a w ho' hg' hr'=>?_
  ·intro r' hne d hd
   rw[hcont,ZMO hne] at hd
   exact ho r' d hd
  ·rw[hcont];exact ZRU hnone
  ·refine fin h' a w (fun r' d hd=>?_) hg' hr'
   by_cases e:r'=r
   ·subst e
    rw[hg'] at hd
    exact (Option.some.inj hd).symm
   ·exact ho' r' e d hd
 | some e=>
  rw[hc] at hev hat
  have hg:getC h.cont r=some (e.n,e.l):=hat.symm
  have:=ho r _ hg
  exact wp_cond_false hev (wp_skip (fin h a w ho (by rw[hg,this]) hr))
end
end
end Go.Ev
end

section
open Go Go.Ev
namespace Go.Ev
noncomputable section
def insP (p:El Zc) (t:Int):List (El Za):=List.getD p.2 (Int.toNat t) (dflt (.sl Za))
def insL (l:List (El Zb)) (s:Int):Int:=(List.getD l (Int.toNat s) (dflt Zb)).2.1
def frS (p:El Zc) (l:List (El Zb)) (t s:Int):SetD:=putAll (Zz (Int.ofNat (List.length (insP p t)))) (ZbI (insP p t) (insL l s))
def outS (p:El Zc) (l:List (El Zb)) (t s:Int):List (El Zd):=(ZT l t false).flatMap (oneP p l t s (frS p l t s))
def outT (p:El Zc) (l:List (El Zb)) (t:Int):List (El Zd):=(ZT l t true).flatMap (outS p l t)
theorem ZlW {n:Nat} {M:Nat→Bool} :(listOf n M).length≤n:=by rw[ZiO];exact ZfC
theorem ZOb (p:El Zc) (l:List (El Zb)) (t s:Int) (fr:SetD) (r:Int):(oneP p l t s fr r).length≤1:=by
 unfold oneP
 split <;> simp
theorem Zqv {α β:Type} {f:α→List β} {n:Nat} (h:∀x,(f x).length≤n):∀l:List α,(l.flatMap f).length≤l.length*n
 | []=>by simp
 | x :: l=>by
  have:=Zqv h l
  have:=h x
  rw[List.flatMap_cons,List.length_append,List.length_cons,Nat.add_mul]
  omega
theorem ZOn (p:El Zc) (l:List (El Zb)) (t s:Int):(outS p l t s).length≤l.length:=by
 have h1:=Zqv (ZOb p l t s (frS p l t s)) (ZT l t false)
 have h2:(ZT l t false).length≤l.length:=ZlW
 unfold outS
 omega
theorem ZRY (p:El Zc) (l:List (El Zb)) (t:Int):(outT p l t).length≤l.length*l.length:=by
 have h1:=Zqv (ZOn p l t) (ZT l t true)
 have h2:(ZT l t true).length≤l.length:=ZlW
 have h3:=Nat.mul_le_mul_right l.length h2
 unfold outT
 omega
theorem ZJz {α β:Type} {f:α→List β} {l:List α} {k:Nat} (hk:k < l.length) {x:α} (hx:l[k]? =some x):(l.take (k+1)).flatMap f=(l.take k).flatMap f++f x:=by
 rw[List.take_add_one,hx]
 simp
section
variable [Orgs] {Mod F0:Nat→Prop} {w0:World} {h:HS} {a:Act} {w:World} {Q:Exit→Act→World→Prop}
variable {p:El Zc} {l:List (El Zb)} {out:List (El Zd)} {t:Int} {m:Nat} {ss:List Int} {k s:Int} {fr:SetD} {fs:List Int} {j:Int} {ls:List Int} {r:Int} {bs:List Int} {i x:Int} {b:Bool}
theorem ZF3 {ls:List Int} {j:Nat} (hj:j < ls.length):ls[j]? =some (List.getD ls j (dflt (.int .i64)))∧List.getD ls j (dflt (.int .i64))∈ls:=by
 have h:ls[j]? =some (List.getD ls j (dflt (.int .i64))):=by rw[List.getD_eq_getElem?_getD,List.getElem?_eq_getElem hj];rfl
 exact ⟨h,List.mem_of_getElem? h⟩
theorem lim1 {o f j n L:Nat} (h:(o+n+1)*24≤L) (h1:f≤min j n*1):(o+f+1)*24≤L:=Nat.le_trans (Nat.mul_le_mul_right _ (Nat.add_le_add_right (Nat.add_le_add_left (Nat.le_trans h1 (by rw[Nat.mul_one];exact Nat.min_le_right _ _)) _) _)) h
theorem lim2 {a b:Nat} (h:a≤b) (h1:b < 1000000000):a < 1000000000000:=Nat.lt_of_le_of_lt h (Nat.lt_trans h1 (by decide))
theorem lim3 {o a b L:Nat} (h:a≤b) (h1:(o+b+1)*24≤L):(o+a+1)*24≤L:=Nat.le_trans (Nat.mul_le_mul_right _ (Nat.add_le_add_right (Nat.add_le_add_left h _) _)) h1
attribute [local irreducible] stA stA5 stB stB9 stB10 stC stD stD14 stE St.put
theorem w_K6 (hs:0≤s∧s < (l.length:Int)) (hls:∀r∈ls,(0≤r∧r < (l.length:Int))∧Zic p r=true∧(ZbU p r).length < 1000000000000) (hlen:ls.length < 1000000000000) (hlim:(out.length+ls.length+1)*24≤limit) (ho:OkS p l h.cont)
  (hr:RelH 107 Mod F0 w0 h (stD p l out t h.m ss k s fr ls 0) a w)
  (hQ:∀h' j b a' w',OkS p l h'.cont→RelH 107 Mod F0 w0 h' ((stD p l (out++ls.flatMap (oneP p l t s fr)) t h'.m ss k s fr ls j).put (some 68) (.d .bool b)) a' w'→Q .normal a' w'):dpK6.wp dProg Q a w:=by
 rw[ZSJ]
 refine forLoop (fun j a w=>∃h:HS,OkS p l h.cont∧RelH 107 Mod F0 w0 h (stD p l (out++(ls.take j).flatMap (oneP p l t s fr)) t h.m ss k s fr ls (j:Int)) a w)
  (fun j a w=>∃h:HS,OkS p l h.cont∧RelH 107 Mod F0 w0 h ((stD p l (out++(ls.take j).flatMap (oneP p l t s fr)) t h.m ss k s fr ls (j:Int)).put (some 68) (.d .bool (decide ((j:Int) < Int.ofNat (List.length ls))))) a w)
  (fun j a w=>∃h:HS,OkS p l h.cont∧RelH 107 Mod F0 w0 h (stD p l (out++(ls.take (j+1)).flatMap (oneP p l t s fr)) t h.m ss k s fr ls (j:Int)) a w)
  ls.length (toGo 67 ls.length) ?_ ?_ ?_ ?_ ?_ ⟨h,ho,by simpa using hr⟩ ?_
 ·intro j a w hj ⟨h,ho,hr⟩
  exact pieceH dcl.1 dcl.2 (fun s=>s) (fun h=>h) (ZTg _ _ _ _ _ _ _ _ _ _ _) hr fun a' w' hr'=>⟨rfl,h,ho,hr'⟩
 ·intro j a w hj ⟨h,ho,hr⟩
  rw[hr.evb (x:=.tmp 68) (b:=decide ((j:Int) < Int.ofNat (List.length ls))) (by kernel_rfl),ZKQ]
 ·intro j a w hj ⟨h,ho,hr⟩
  obtain ⟨g1,g2⟩:=ZF3 hj
  obtain ⟨q1,q2,q3⟩:=hls _ g2
  rw[ZJz hj g1,←List.append_assoc]
  refine w_B7 hj rfl hs q1 ?_ q2 q3 ho hr
  have h1:=Zqv (ZOb p l t s fr) (ls.take j)
  rw[List.length_append]
  rw[List.length_take] at h1
  exact lim1 hlim h1
 ·intro j a w hj ⟨h,ho,hr⟩
  have e:=ZTj p l (out++(ls.take (j+1)).flatMap (oneP p l t s fr)) t h.m ss k s fr (j:Int) ls
  rw[Zo (by omega)] at e
  exact pieceH dcl.1 dcl.2 (norm dProg labD) (fun h=>Z4 h) e hr fun a' w' hr'=>⟨rfl,h,ho,hr'⟩
 ·intro j a w hj ⟨h,ho,hr⟩
  unfold toGo
  rw[hr.ev (x:=.tmp 67) (k:=.i64) (n:=(j:Int)) (by kernel_rfl)]
  rfl
 ·intro a w ⟨h,ho,hr⟩
  rw[List.take_length] at hr
  exact hQ h _ _ a w ho hr
theorem w_K4 (hlen:fs.length < 1000000000000) (hr:RelH 107 Mod F0 w0 h (stC p l out t h.m ss k s fr fs 0) a w)
  (hQ:∀j b a' w',RelH 107 Mod F0 w0 h ((stC p l out t h.m ss k s (putAll fr fs) fs j).put (some 56) (.d .bool b)) a' w'→Q .normal a' w'):dpK4.wp dProg Q a w:=by
 rw[ZSh]
 refine forLoop (fun j a w=>RelH 107 Mod F0 w0 h (stC p l out t h.m ss k s (putAll fr (fs.take j)) fs (j:Int)) a w)
  (fun j a w=>RelH 107 Mod F0 w0 h ((stC p l out t h.m ss k s (putAll fr (fs.take j)) fs (j:Int)).put (some 56) (.d .bool (decide ((j:Int) < Int.ofNat (List.length fs))))) a w)
  (fun j a w=>RelH 107 Mod F0 w0 h (stC p l out t h.m ss k s (putAll fr (fs.take (j+1))) fs (j:Int)) a w)
  fs.length (toGo 55 fs.length) ?_ ?_ ?_ ?_ ?_ hr ?_
 ·intro j a w hj hr
  exact pieceH dcl.1 dcl.2 (fun s=>s) (fun h=>h) (ZTh _ _ _ _ _ _ _ _ _ _ _) hr fun a' w' hr'=>⟨rfl,hr'⟩
 ·intro j a w hj hr
  rw[hr.evb (x:=.tmp 56) (b:=decide ((j:Int) < Int.ofNat (List.length fs))) (by kernel_rfl),ZKQ]
 ·intro j a w hj hr
  refine pieceH dcl.1 dcl.2 (norm dProg labC) (fun h=>Z4 h) ((ZTx p l out t h.m ss k s (putAll fr (fs.take j)) fs (j:Int) _).ok (ZFT hj)) hr fun a' w' hr'=>⟨.inl rfl,?_⟩
  have:putAll fr (fs.take (j+1))=(Zr (putAll fr (fs.take j)) (List.getD fs (Int.toNat (j:Int)) (dflt (.int .i64)))).2:=by
   rw[List.take_succ_eq_append_getElem hj]
   unfold putAll
   rw[List.foldl_append]
   simp only[List.foldl_cons,List.foldl_nil]
   rw[Int.toNat_natCast,List.getD_eq_getElem?_getD,List.getElem?_eq_getElem hj]
   rfl
  rw[this]
  exact hr'
 ·intro j a w hj hr
  have e:=ZTq p l out t h.m ss k s (putAll fr (fs.take (j+1))) fs (j:Int)
  rw[Zo (by omega)] at e
  exact pieceH dcl.1 dcl.2 (norm dProg labC) (fun h=>Z4 h) e hr fun a' w' hr'=>⟨rfl,hr'⟩
 ·intro j a w hj hr
  unfold toGo
  rw[hr.ev (x:=.tmp 55) (k:=.i64) (n:=(j:Int)) (by kernel_rfl)]
  rfl
 ·intro a w hr
  rw[List.take_length] at hr
  exact hQ _ _ a w hr
structure DelayOK (p:El Zc) (l:List (El Zb)):Prop where
 len:l.length < 1000000000
 thr:p.2.length < 1000000000
 all:(p.2.length*(l.length*l.length)+1)*24≤limit
 back:∀r:Int,Zic p r=true∧(ZbU p r).length < 1000000000000
 flow:∀(t:Nat) (i:Int),t < p.2.length→Zjh (insP p (t:Int)) i=true∧(ZbI (insP p (t:Int)) i).length < 1000000000000
theorem ZOy {l:List (El Zb)} {t:Int} {b:Bool} {r:Int} (h:r∈ZT l t b):0≤r∧r < (l.length:Int):=by
 obtain ⟨i,hi,_,rfl⟩:=ZcE.1 h
 omega
theorem w_B3 (hd:DelayOK p l) {t:Nat} (ht:t < p.2.length) {k:Nat} (hk:k < ss.length) (hss:∀s∈ss,0≤s∧s < (l.length:Int)) (hlim:(out.length+l.length+1)*24≤limit) (ho:OkS p l h.cont)
  (hr:RelH 107 Mod F0 w0 h ((stB p l out (t:Int) h.m ss (k:Int)).put (some 32) (.d .bool b)) a w):
  (lpB dpK2).wp dProg (fun e a' w'=>(e=.normal∨e=.exit 3)∧∃(h':HS) (s:Int) (fr:SetD) (ls:List Int) (j:Int) (b:Bool),OkS p l h'.cont∧RelH 107 Mod F0 w0 h' ((stD p l (out++outS p l (t:Int) (List.getD ss k (dflt (.int .i64)))) (t:Int) h'.m ss (k:Int) s fr ls j).put (some 68) (.d .bool b)) a' w') a w:=by
 obtain ⟨g1,g2⟩:=ZF3 hk
 have hs:=hss _ g2
 obtain ⟨f1,f2⟩:=hd.flow t (insL l (List.getD ss k (dflt (.int .i64)))) ht
 rw[ZSl]
 refine wp_seq (pieceH dcl.1 dcl.2 (norm dProg labB9) (fun h=>Z4 h) ((dp_7 p l out (t:Int) h.m ss (k:Int) b).ok (ZFT hk)) hr fun a w hr=>?_)
 rw[Int.toNat_natCast] at hr
 refine wp_seq (pieceH dcl.1 dcl.2 (norm dProg labB10) (fun h=>Z4 h) ((dp_8 p l out (t:Int) h.m ss (k:Int) _).ok (ZFT ht)) hr fun a w hr=>?_)
 refine wp_seq (wp_seq (pieceH dcl.1 dcl.2 (norm dProg labC) (fun h=>Z4 h) ((dp_9 p l out (t:Int) h.m ss (k:Int) _ _).ok (by rw[ZFT ht,ZHR hs.1 hs.2];exact f1)) hr fun a w hr=>?_))
 refine w_K4 f2 hr fun j b a w hr=>?_
 have hkp:Zd4 l (t:Int) false=true:=decide_eq_true hd.len
 refine wp_seq (pieceH dcl.1 dcl.2 (norm dProg labD) (fun h=>Z4 h) ((ZTk p l out (t:Int) h.m ss (k:Int) _ _ _ _ _).ok hkp) hr fun a w hr=>?_)
 have hl2:(ZT l (t:Int) false).length≤l.length:=ZlW
 refine w_K6 hs (fun r hrm=>⟨ZOy hrm,hd.back r⟩) (lim2 hl2 hd.len) (lim3 hl2 hlim) ho hr fun h' j b a w ho hr=>⟨.inl rfl,h',_,_,_,j,b,ho,hr⟩
end
end
end Go.Ev
end

section
open Go Go.Ev
namespace Go.Ev
noncomputable section
theorem limA {o c n N L:Nat} (hc:c < n) (h:(o+n*N+1)*24≤L) {f:Nat} (hf:f≤min c n*N):(o+f+N+1)*24≤L:=by
 refine Nat.le_trans (Nat.mul_le_mul_right _ (Nat.add_le_add_right ?_ _)) h
 rw[Nat.add_assoc]
 refine Nat.add_le_add_left ?_ _
 have h1:(c+1)*N≤n*N:=Nat.mul_le_mul_right _ hc
 have h2:min c n*N≤c*N:=Nat.mul_le_mul_right _ (Nat.min_le_left _ _)
 rw[Nat.succ_mul] at h1
 exact Nat.le_trans (Nat.add_le_add_right (Nat.le_trans hf h2) _) h1
section
variable [Orgs] {Mod F0:Nat→Prop} {w0:World} {h:HS} {a:Act} {w:World} {Q:Exit→Act→World→Prop}
variable {p:El Zc} {l:List (El Zb)} {out:List (El Zd)} {m:Nat} {ss:List Int} {b:Bool}
attribute [local irreducible] stA stA5 stB stB9 stB10 stC stD stD14 stE St.put
theorem w_K2 (hd:DelayOK p l) {t:Nat} (ht:t < p.2.length) (hss:∀s∈ss,0≤s∧s < (l.length:Int)) (hlen:ss.length < 1000000000000) (hlim:(out.length+ss.length*l.length+1)*24≤limit) (ho:OkS p l h.cont)
  (hr:RelH 107 Mod F0 w0 h (stB p l out (t:Int) h.m ss 0) a w)
  (hQ:∀h' k b a' w',RelH 107 Mod F0 w0 h' ((stB p l (out++ss.flatMap (outS p l (t:Int))) (t:Int) h'.m ss k).put (some 32) (.d .bool b)) a' w'→Q .normal a' w'):dpK2.wp dProg Q a w:=by
 rw[ZSC]
 refine forLoop (fun k a w=>∃h:HS,OkS p l h.cont∧RelH 107 Mod F0 w0 h (stB p l (out++(ss.take k).flatMap (outS p l (t:Int))) (t:Int) h.m ss (k:Int)) a w)
  (fun k a w=>∃h:HS,OkS p l h.cont∧RelH 107 Mod F0 w0 h ((stB p l (out++(ss.take k).flatMap (outS p l (t:Int))) (t:Int) h.m ss (k:Int)).put (some 32) (.d .bool (decide ((k:Int) < Int.ofNat (List.length ss))))) a w)
  (fun k a w=>∃(h:HS) (s:Int) (fr:SetD) (ls:List Int) (j:Int) (b:Bool),OkS p l h.cont∧RelH 107 Mod F0 w0 h ((stD p l (out++(ss.take (k+1)).flatMap (outS p l (t:Int))) (t:Int) h.m ss (k:Int) s fr ls j).put (some 68) (.d .bool b)) a w)
  ss.length (toGo 31 ss.length) ?_ ?_ ?_ ?_ ?_ ⟨h,ho,by simpa using hr⟩ ?_
 ·intro k a w hk ⟨h,ho,hr⟩
  exact pieceH dcl.1 dcl.2 (fun s=>s) (fun h=>h) (ZTe _ _ _ _ _ _ _) hr fun a' w' hr'=>⟨rfl,h,ho,hr'⟩
 ·intro k a w hk ⟨h,ho,hr⟩
  rw[hr.evb (x:=.tmp 32) (b:=decide ((k:Int) < Int.ofNat (List.length ss))) (by kernel_rfl),ZKQ]
 ·intro k a w hk ⟨h,ho,hr⟩
  obtain ⟨g1,g2⟩:=ZF3 hk
  rw[ZJz hk g1,←List.append_assoc]
  refine w_B3 hd ht hk hss ?_ ho hr
  have h1:=Zqv (ZOn p l (t:Int)) (ss.take k)
  rw[List.length_append]
  rw[List.length_take] at h1
  exact limA hk hlim h1
 ·intro k a w hk ⟨h,s,fr,ls,j,b,ho,hr⟩
  have e:=ZTr p l (out++(ss.take (k+1)).flatMap (outS p l (t:Int))) (t:Int) h.m ss (k:Int) s fr j ls b
  rw[Zo (Nat.lt_trans (Nat.lt_trans hk hlen) (by decide))] at e
  exact pieceH dcl.1 dcl.2 (norm dProg labB) (fun h=>Z4 h) e hr fun a' w' hr'=>⟨rfl,h,ho,hr'⟩
 ·intro k a w hk ⟨h,ho,hr⟩
  unfold toGo
  rw[hr.ev (x:=.tmp 31) (k:=.i64) (n:=(k:Int)) (by kernel_rfl)]
  rfl
 ·intro a w ⟨h,ho,hr⟩
  rw[List.take_length] at hr
  exact hQ h _ _ a w hr
def outN (p:El Zc) (l:List (El Zb)) (n:Nat):List (El Zd):=(List.range n).flatMap fun t:Nat=>outT p l (t:Int)
theorem ZRO (p:El Zc) (l:List (El Zb)) (n:Nat):(outN p l n).length≤n*(l.length*l.length):=by
 have:=Zqv (fun t:Nat=>ZRY p l (t:Int)) (List.range n)
 rw[List.length_range] at this
 unfold outN
 exact this
theorem ZQo (p:El Zc) (l:List (El Zb)) (n:Nat):outN p l (n+1)=outN p l n++outT p l (n:Int):=by
 unfold outN
 rw[List.range_succ,List.flatMap_append]
 simp
theorem limC {c n N L:Nat} (hc:c < n) (h:(n*(N*N)+1)*24≤L) {o s:Nat} (ho:o≤c*(N*N)) (hs:s≤N):(o+s*N+1)*24≤L:=by
 refine Nat.le_trans (Nat.mul_le_mul_right _ (Nat.add_le_add_right ?_ _)) h
 have h1:(c+1)*(N*N)≤n*(N*N):=Nat.mul_le_mul_right _ hc
 rw[Nat.succ_mul] at h1
 exact Nat.le_trans (Nat.add_le_add ho (Nat.mul_le_mul_right _ hs)) h1
theorem ZSw (p:El Zc) (l:List (El Zb)) (m:Nat):OkS p l (⟨m,[]⟩:HS).cont:=fun r d hrd=>by cases hrd
theorem w_B1 (hd:DelayOK p l) {t:Nat} (ht:t < p.2.length) (hr:Rel Mod F0 w0 ((stA p l (outN p l t) (t:Int)).put (some 23) (.d .bool b)) a w):
  (lpB dpK0).wp dProg (fun e a' w'=>(e=.normal∨e=.exit 1)∧∃(m:Nat) (ss:List Int) (k:Int) (b:Bool),Rel Mod F0 w0 ((stB p l (outN p l (t+1)) (t:Int) m ss k).put (some 32) (.d .bool b)) a' w') a w:=by
 rw[ZSc]
 refine wp_seq (piece dcl.1 dcl.2 (norm dProg labA5) (fun h=>Z4 h) (dp_4 p l (outN p l t) (t:Int) b) hr fun a w hr=>?_)
 have hkp:Zd4 l (t:Int) true=true:=decide_eq_true hd.len
 refine wp_seq (w_5 hkp hr fun m a w hr=>?_)
 refine wp_seq (pieceH dcl.1 dcl.2 (norm dProg labB) (fun h=>Z4 h) dp_6 hr fun a w hr=>?_)
 have hl2:(ZT l (t:Int) true).length≤l.length:=ZlW
 refine w_K2 (h:=⟨m,[]⟩) hd ht (fun s hs=>ZOy hs) (lim2 hl2 hd.len) (limC ht hd.all (ZRO p l t) hl2) (ZSw p l m) hr fun h' k b a w hr=>⟨.inl rfl,h'.m,ZT l (t:Int) true,k,b,?_⟩
 rw[ZQo]
 exact hr.out
theorem w_K0 (hd:DelayOK p l) (hr:Rel Mod F0 w0 (stA p l [] 0) a w)
  (hQ:∀t b a' w',Rel Mod F0 w0 ((stA p l (outN p l p.2.length) t).put (some 23) (.d .bool b)) a' w'→Q .normal a' w'):dpK0.wp dProg Q a w:=by
 rw[ZSj]
 refine forLoop (fun t a w=>Rel Mod F0 w0 (stA p l (outN p l t) (t:Int)) a w)
  (fun t a w=>Rel Mod F0 w0 ((stA p l (outN p l t) (t:Int)).put (some 23) (.d .bool (decide ((t:Int) < Int.ofNat (List.length p.2))))) a w)
  (fun t a w=>∃(m:Nat) (ss:List Int) (k:Int) (b:Bool),Rel Mod F0 w0 ((stB p l (outN p l (t+1)) (t:Int) m ss k).put (some 32) (.d .bool b)) a w)
  p.2.length (toGo 22 p.2.length) ?_ ?_ ?_ ?_ ?_ hr ?_
 ·intro t a w ht hr
  exact piece dcl.1 dcl.2 (fun s=>s) (fun h=>h) (ZTc _ _ _ _) hr fun a' w' hr'=>⟨rfl,hr'⟩
 ·intro t a w ht hr
  rw[hr.evb (x:=.tmp 23) (b:=decide ((t:Int) < Int.ofNat (List.length p.2))) (by kernel_rfl),ZKQ]
 ·intro t a w ht hr
  exact w_B1 hd ht hr
 ·intro t a w ht ⟨m,ss,k,b,hr⟩
  have e:=ZTn p l (outN p l (t+1)) (t:Int) m ss k b
  rw[Zo (Nat.lt_trans (Nat.lt_trans ht hd.thr) (by decide))] at e
  exact piece dcl.1 dcl.2 (norm dProg labA) (fun h=>Z4 h) e hr fun a' w' hr'=>⟨rfl,hr'⟩
 ·intro t a w ht hr
  unfold toGo
  rw[hr.ev (x:=.tmp 22) (k:=.i64) (n:=(t:Int)) (by kernel_rfl)]
  rfl
 ·intro a w hr
  exact hQ _ _ a w hr
end
end
end Go.Ev
end

section
open Go Go.Ev
namespace Go.Ev
def ZoQ:Sig:=[(true,Zc)]
noncomputable def Zl (p:El Zc):List (El Zd):=outN p (ofC p) p.2.length
def Z6 (p:El Zc):Bool:=smallAll p&&(decide ((ofC p).length < 1000000000)&&(decide (p.2.length < 1000000000)&&decide ((p.2.length*((ofC p).length*(ofC p).length)+1)*24≤limit)))
def Zxf:List (El Zd)→AV:=fun (r:List (El Zd))=>.rw 57 Zd r
theorem ZJT {x:List (El Za)} :∀ {l:List (List (El Za))},x∈l→x.length≤total l
 | y :: l,h=>by
  unfold total at*
  rw[List.map_cons,List.sum_cons]
  rcases List.mem_cons.1 h with rfl | h
  ·exact Nat.le_add_right _ _
  ·exact Nat.le_trans (by have:=ZJT h;unfold total at this;exact this) (Nat.le_add_left _ _)
theorem ZMp (p:El Zc) (a:Int):(ZbU p a).length≤(ofC p).length:=by
 unfold ZbU
 split
 ·exact ZlW
 ·exact Nat.zero_le _
theorem delayOK {p:El Zc} (hk:Z6 p=true):smallAll p=true∧DelayOK p (ofC p):=by
 unfold Z6 at hk
 simp only[Bool.and_eq_true] at hk
 obtain ⟨h1,h2,h3,h4⟩:=hk
 have h2:=of_decide_eq_true h2
 have hA:=smallA h1
 refine ⟨h1,h2,of_decide_eq_true h3,of_decide_eq_true h4,fun r=>⟨h1,Nat.lt_of_le_of_lt (ZMp p r) (Nat.lt_trans h2 (by decide))⟩,fun t i ht=>?_⟩
 have hm:insP p (t:Int)∈p.2:=by
  unfold insP
  rw[Int.toNat_natCast,List.getD_eq_getElem?_getD,List.getElem?_eq_getElem ht]
  exact List.getElem_mem ht
 have hf:=ZuO (hA.thr _ hm)
 have h1:(ZbI (insP p (t:Int)) i).length≤(insP p (t:Int)).length:=ZlW
 have h2:(insP p (t:Int)).length < 1073741824:=by
  exact Nat.lt_of_le_of_lt (ZJT hm) hA.tot
 exact ⟨hf,Nat.lt_of_le_of_lt h1 (Nat.lt_trans h2 (by decide))⟩
noncomputable section
theorem dp_E (p:El Zc) (l:List (El Zb)) (out:List (El Zd)) (t:Int) (b:Bool):dEvI dpE ((stA p l out t).put (some 23) (.d .bool b)) ((((stA p l out t).put (some 23) (.d .bool b)).put (some 125) (.own 5 0 none)).put (some 2) (.own 5 0 none)):=fun L k x r=>by kernel_rfl
theorem Zyj (p:El Zc) (hk:Z6 p=true):CallOK dProg 31 (toForms ZoQ (p,())) (Zxf (Zl p),tps (toForms ZoQ (p,()))):=by
 obtain ⟨hs,hd⟩:=delayOK hk
 refine ZnP (tb:=[]) (fn:=Go.Proofs.Tryz.f31) (c:=dpB) (vs:=[.ag [.d (.sl Zy) p.1,.d (.sl (.sl Za)) p.2]]) (st:=⟨[],[]⟩) (by kernel_rfl) (by kernel_rfl) (by kernel_rfl) ?_
 intro _ Mod F0 w0 a w hr
 have hr:Rel Mod F0 w0 (dS0 p) a w:=hr
 rw[ZSX]
 refine wp_seq (piece dcl.1 dcl.2 (norm dProg ⟨[1],[]⟩) (fun h=>Z4 h) (dp_0 p) hr fun a w hr=>?_)
 refine wp_seq (piece dcl.1 dcl.2 (norm dProg ⟨[1,3],[]⟩) (fun h=>Z4 h) ((dp_1 p).ok hs) hr fun a w hr=>?_)
 refine wp_seq (piece dcl.1 dcl.2 (norm dProg ⟨[1,3,4],[(5,106)]⟩) (fun h=>Z4 h) (dp_2 p (ZD p)) hr fun a w hr=>?_)
 refine wp_seq (wp_seq (piece dcl.1 dcl.2 (norm dProg labA) (fun h=>Z4 h) (dp_3 p (ZD p)) hr fun a w hr=>?_))
 refine w_K0 (l:=ofC p) hd hr fun t b a w hr=>?_
 refine wp_seq (piece dcl.1 dcl.2 (fun s=>s) (fun h=>h) (dp_E p (ofC p) (outN p (ofC p) p.2.length) t b) hr fun a w hr=>?_)
 exact wp_ret ⟨.inr rfl,_,hr,by kernel_rfl⟩
noncomputable def ZiH:Run:=entG ZoQ Zxf (fun a=>Z6 a.1) (fun a=>Zl a.1)
theorem Zj6:EntOK dProg 31 ZiH:=ZDF (ZjR (fn:=Go.Proofs.Tryz.f31) (c:=dpB) (by kernel_rfl) (by kernel_rfl) (by kernel_rfl)) fun a h=>Zyj a.1 h
end
end Go.Ev
end

section
open Go Go.Ev
namespace Go.Ev
noncomputable section
def ZhJ:Sig:=[(true,Za)]
noncomputable def Zv7:Tbl:=[(86,Zhy),(72,Zuk)]
theorem ZKG:∀p∈Zv7,EntOK Go.Proofs.Tryz.prog p.1 p.2:=Zg ZhI (Zg Zyx (Zt))
noncomputable def Zrt:Code:=Go.Proofs.Tryz.f100.body.getD .skip
def Zua:Tb:=[]
def ZCl (i:El Za):Empty→JT Empty (Bool):=fun j=>nomatch j
def Zz9 (i:El Za):JT Empty (Bool):=.br (ZS i) (.br ((ZA i)==(0:Int)) (.br (i.1==(12:Int)) (.leaf true) (.br (Zax i) (.leaf (Zan i)) (.no))) (.br (Zax i) (.leaf (Zan i)) (.no))) (.no)
def ZhB (i:El Za):Bool:=bif (ZS i) then bif ((ZA i)==(0:Int)) then bif (i.1==(12:Int)) then true else bif (Zax i) then (Zan i) else false else bif (Zax i) then (Zan i) else false else false
def ZeV (i:El Za):Bool:=bif (ZS i) then bif ((ZA i)==(0:Int)) then bif (i.1==(12:Int)) then true else bif (Zax i) then true else false else bif (Zax i) then true else false else false
theorem ZNi (i:El Za) (hk:ZeV i=true):Goes (ZCl i) (Zz9 i) (ZhB i):=Goes.brk hk (fun hk=>Goes.brk hk (fun hk=>Goes.brk hk (fun hk=>Goes.leaf) (fun hk=>Goes.brk hk (fun hk=>Goes.leaf) (fun hk=>Goes.nok hk))) (fun hk=>Goes.brk hk (fun hk=>Goes.leaf) (fun hk=>Goes.nok hk))) (fun hk=>Goes.nok hk)
def Zql:Bool→AV:=fun (r:Bool)=>.d .bool r
def ZhC (i:El Za):Empty→Nat×St:=fun j=>nomatch j
theorem ZMc (i:El Za) (L:Lt):entryA Go.Proofs.Tryz.prog (clOf Zv7) Zua Go.Proofs.Tryz.f100 Zrt L (toForms ZhJ (i,()))=(Zz9 i).run (fun v=>some (Zql v,tps (toForms ZhJ (i,())))) fun j=>L (ZhC i j).1 (ZhC i j).2:=by kernel_rfl
theorem ZLM (i:El Za):∀(L:Lt) (j:Empty),procOf (procsF Go.Proofs.Tryz.prog (clOf Zv7) Zua Go.Proofs.Tryz.f100 Zrt (toForms ZhJ (i,()))) (ZhC i j).1 L (ZhC i j).2=(ZCl i j).run (fun v=>some (Zql v,tps (toForms ZhJ (i,())))) fun j=>L (ZhC i j).1 (ZhC i j).2:=fun L j=>nomatch j
noncomputable def ZB4:Run:=entG ZhJ Zql (fun a=>ZeV a.1) (fun a=>ZhB a.1)
theorem ZLf:EntOK Go.Proofs.Tryz.prog 100 ZB4:=ZH (tb:=Zua) (c:=Zrt) ZKG (by kernel_rfl) (by kernel_rfl) (by kernel_rfl) (fun a=>by kernel_rfl) fun ⟨i,_⟩ hk=>Zm (c:=Zrt) (K:=fun v=>(Zql v,tps (toForms ZhJ (i,())))) (S:=ZhC i) (by kernel_rfl) (ZMc i) (ZLM i) (ZNi i hk)
end
end Go.Ev
end

section
open Go Go.Ev
namespace Go.Ev
noncomputable section
def ZhY:Sig:=[(true,(.sl Za)),(false,(.sl (.int .i64))),(false,(.int .i64))]
noncomputable def Zw4:Tbl:=[(51,ZlY),(53,Zc7),(75,Zwp),(54,ZgP),(100,ZB4),(76,Zit)]
theorem ZJg:∀p∈Zw4,EntOK Go.Proofs.Tryz.prog p.1 p.2:=Zg Zmg (Zg Zcs (Zg ZzJ (Zg Ze0 (Zg ZLf (Zg ZkS (Zt))))))
noncomputable def Zr6:Code:=Go.Proofs.Tryz.f63.body.getD .skip
def Ztn:Tb:=[(4,⟨[2,3,7,8,23,24,25],[]⟩),(11,⟨[3,7,8,11],[(1000000000000000000000000000000000000000000000000000000000012,1)]⟩),(17,⟨[3,7,8,11,51,52,53],[(1000000000000000000000000000000000000000000000000000000000012,1)]⟩)]
inductive ZmM where | l4 (h:Int) (closed:Int) (closed1:List (Int×Int)) | l11 (closed:Int) (closed1:List (Int×Int)) (len:Nat) (seen:Int) (open_:List Int) (seen1:List (Int×Int)) | l17 (closed:Int) (closed1:List (Int×Int)) (len:Nat) (h:Int) (seen:Int) (open_:List Int) (seen1:List (Int×Int)) (h1:Int) (h2:List Int)
def Zb8 (t:List (El Za)) (points:List Int) (s:Int):ZmM→JT ZmM (List Int) |.l4 h closed closed1=>.br (decide (h < (Int.ofNat (List.length points)))) (.br ((decide ((0:Int)≤h))&&(decide (h < (Int.ofNat (List.length points))))) (.jmp (.l4 (IntKind.i64.wrap (h+(1:Int))) (Zr (closed,closed1) (List.getD points (Int.toNat h) (dflt (.int .i64)))).2.1 (Zr (closed,closed1) (List.getD points (Int.toNat h) (dflt (.int .i64)))).2.2)) (.no)) (.jmp (.l11 closed closed1 1 (Zz (Int.ofNat (List.length t))).1 [s] (Zz (Int.ofNat (List.length t))).2)) |.l11 closed closed1 len seen open_ seen1=>.br (decide ((Int.ofNat len) > (0:Int))) (.br ((decide ((0:Int)≤(IntKind.i64.wrap ((Int.ofNat len) - (1:Int)))))&&(decide ((IntKind.i64.wrap ((Int.ofNat len) - (1:Int))) < (Int.ofNat len)))) (.br ((decide ((0:Int)≤(IntKind.i64.wrap ((Int.ofNat len) - (1:Int)))))&&(decide ((IntKind.i64.wrap ((Int.ofNat len) - (1:Int)))≤(Int.ofNat len)))) (.br (ZfM t (List.getD open_ (Int.toNat (IntKind.i64.wrap ((Int.ofNat len) - (1:Int)))) (dflt (.int .i64)))) (.jmp (.l17 closed closed1 (Int.toNat (IntKind.i64.wrap ((Int.ofNat len) - (1:Int)))) (0:Int) seen open_ seen1 (Int.ofNat (List.length (Zad t (List.getD open_ (Int.toNat (IntKind.i64.wrap ((Int.ofNat len) - (1:Int)))) (dflt (.int .i64)))))) (Zad t (List.getD open_ (Int.toNat (IntKind.i64.wrap ((Int.ofNat len) - (1:Int)))) (dflt (.int .i64)))))) (.no)) (.no)) (.no)) (.br (Zbu (seen,seen1)) (.leaf (ZbV (seen,seen1)).1) (.no)) |.l17 closed closed1 len h seen open_ seen1 h1 h2=>.br (decide (h < h1)) (.br ((decide ((0:Int)≤h))&&(decide (h < (Int.ofNat (List.length h2))))) (.br (! (Zq (closed,closed1) (List.getD h2 (Int.toNat h) (dflt (.int .i64)))).1) (.br (Zr (seen,seen1) (List.getD h2 (Int.toNat h) (dflt (.int .i64)))).1 (.br ((decide ((0:Int)≤(List.getD h2 (Int.toNat h) (dflt (.int .i64)))))&&(decide ((List.getD h2 (Int.toNat h) (dflt (.int .i64))) < (Int.ofNat (List.length t))))) (.br (ZeV (List.getD t (Int.toNat (List.getD h2 (Int.toNat h) (dflt (.int .i64)))) (dflt Za))) (.br (! (ZhB (List.getD t (Int.toNat (List.getD h2 (Int.toNat h) (dflt (.int .i64)))) (dflt Za)))) (.br (Nat.ble (((List.length (List.take len open_))+1)*8) limit) (.jmp (.l17 (Zq (closed,closed1) (List.getD h2 (Int.toNat h) (dflt (.int .i64)))).2.1 (Zq (closed,closed1) (List.getD h2 (Int.toNat h) (dflt (.int .i64)))).2.2 (List.length ((List.take len open_)++[(List.getD h2 (Int.toNat h) (dflt (.int .i64)))])) (IntKind.i64.wrap (h+(1:Int))) (Zr (seen,seen1) (List.getD h2 (Int.toNat h) (dflt (.int .i64)))).2.1 ((List.take len open_)++[(List.getD h2 (Int.toNat h) (dflt (.int .i64)))]) (Zr (seen,seen1) (List.getD h2 (Int.toNat h) (dflt (.int .i64)))).2.2 h1 h2)) (.no)) (.jmp (.l17 (Zq (closed,closed1) (List.getD h2 (Int.toNat h) (dflt (.int .i64)))).2.1 (Zq (closed,closed1) (List.getD h2 (Int.toNat h) (dflt (.int .i64)))).2.2 len (IntKind.i64.wrap (h+(1:Int))) (Zr (seen,seen1) (List.getD h2 (Int.toNat h) (dflt (.int .i64)))).2.1 open_ (Zr (seen,seen1) (List.getD h2 (Int.toNat h) (dflt (.int .i64)))).2.2 h1 h2))) (.no)) (.no)) (.jmp (.l17 (Zq (closed,closed1) (List.getD h2 (Int.toNat h) (dflt (.int .i64)))).2.1 (Zq (closed,closed1) (List.getD h2 (Int.toNat h) (dflt (.int .i64)))).2.2 len (IntKind.i64.wrap (h+(1:Int))) (Zr (seen,seen1) (List.getD h2 (Int.toNat h) (dflt (.int .i64)))).2.1 open_ (Zr (seen,seen1) (List.getD h2 (Int.toNat h) (dflt (.int .i64)))).2.2 h1 h2))) (.jmp (.l17 (Zq (closed,closed1) (List.getD h2 (Int.toNat h) (dflt (.int .i64)))).2.1 (Zq (closed,closed1) (List.getD h2 (Int.toNat h) (dflt (.int .i64)))).2.2 len (IntKind.i64.wrap (h+(1:Int))) seen open_ seen1 h1 h2))) (.no)) (.jmp (.l11 closed closed1 len seen open_ seen1))
def Zsy (t:List (El Za)) (points:List Int) (s:Int):JT ZmM (List Int):=.jmp (.l4 (0:Int) (Zz (Int.ofNat (List.length t))).1 (Zz (Int.ofNat (List.length t))).2)
def Zp0:List Int→AV:=fun (r:List Int)=>.rw 3 (.int .i64) r
def Zhn (t:List (El Za)) (points:List Int) (s:Int):ZmM→Nat×St |.l4 h closed closed1=>(4,⟨mkTm 82 [(2,.d (.int .i64) s),(3,.pt 4 0 0),(7,.pt 8 0 0),(8,.pt 9 0 0),(23,.d (.sl (.int .i64)) points),(24,.d (.int .i64) (Int.ofNat (List.length points))),(25,.d (.int .i64) h)],[(4,0,.box 42 [.d (.sl Za) t] none),(8,0,.box 107 [.d (.int .i64) closed,.mp 8194 0] none),(9,0,.box 107 [.d (.int .i64) (Zz (Int.ofNat (List.length t))).1,.mp 9218 0] none),(8194,0,.map (.int .i64) (.int .u64) closed1),(9218,0,.map (.int .i64) (.int .u64) (Zz (Int.ofNat (List.length t))).2)]⟩) |.l11 closed closed1 len seen open_ seen1=>(11,⟨mkTm 82 [(3,.pt 4 0 0),(7,.pt 8 0 0),(8,.pt 9 0 0),(11,.own 12 0 (some len))],[(4,0,.box 42 [.d (.sl Za) t] none),(8,0,.box 107 [.d (.int .i64) closed,.mp 8194 0] none),(9,0,.box 107 [.d (.int .i64) seen,.mp 9218 0] none),(12,0,.row 3 (.int .i64) open_ false),(8194,0,.map (.int .i64) (.int .u64) closed1),(9218,0,.map (.int .i64) (.int .u64) seen1)]⟩) |.l17 closed closed1 len h seen open_ seen1 h1 h2=>(17,⟨mkTm 82 [(3,.pt 4 0 0),(7,.pt 8 0 0),(8,.pt 9 0 0),(11,.own 12 0 (some len)),(51,.own 52 0 none),(52,.d (.int .i64) h1),(53,.d (.int .i64) h)],[(4,0,.box 42 [.d (.sl Za) t] none),(8,0,.box 107 [.d (.int .i64) closed,.mp 8194 0] none),(9,0,.box 107 [.d (.int .i64) seen,.mp 9218 0] none),(12,0,.row 3 (.int .i64) open_ false),(52,0,.row 3 (.int .i64) h2 false),(8194,0,.map (.int .i64) (.int .u64) closed1),(9218,0,.map (.int .i64) (.int .u64) seen1)]⟩)
theorem ZMa (t:List (El Za)) (points:List Int) (s:Int) (L:Lt):entryA Go.Proofs.Tryz.prog (clOf Zw4) Ztn Go.Proofs.Tryz.f63 Zr6 L (toForms ZhY (t,points,s,()))=(Zsy t points s).run (fun v=>some (Zp0 v,tps (toForms ZhY (t,points,s,())))) fun j=>L (Zhn t points s j).1 (Zhn t points s j).2:=by kernel_rfl
theorem ZJD (t:List (El Za)) (points:List Int) (s:Int):∀(L:Lt) (j:ZmM),procOf (procsF Go.Proofs.Tryz.prog (clOf Zw4) Ztn Go.Proofs.Tryz.f63 Zr6 (toForms ZhY (t,points,s,()))) (Zhn t points s j).1 L (Zhn t points s j).2=(Zb8 t points s j).run (fun v=>some (Zp0 v,tps (toForms ZhY (t,points,s,())))) fun j=>L (Zhn t points s j).1 (Zhn t points s j).2 | L,.l4 h closed closed1=>by kernel_rfl | L,.l11 closed closed1 len seen open_ seen1=>by kernel_rfl | L,.l17 closed closed1 len h seen open_ seen1 h1 h2=>by kernel_rfl
end
end Go.Ev
end

section
open Go
namespace Go.Ev
theorem ZSn {i:El Za} (h:smallText i.2.2.2.2.2.1=true):ZeV i=true:=by
 have h0:ZS i=true:=h
 have a:Zax i=true:=by unfold Zax;simp only[h0,cond_true,Bool.cond_self]
 unfold ZeV
 simp only[h0,a,cond_true,Bool.cond_self]
end Go.Ev
end

section
open Go
namespace Go.Ev
def fenceAtT (t:List (El Za)) (k:Nat):Bool:=ZhB (t.getD k (dflt Za))
def stepB (t:List (El Za)) (points:List Int) (k j:Nat):Bool:=!fenceAtT t k&&(nextB t (k:Int) j&& !points.contains (j:Int))
def firstB (t:List (El Za)) (points:List Int) (s:Int) (j:Nat):Bool:=nextB t s j&& !points.contains (j:Int)
noncomputable def endsB (t:List (El Za)) (points:List Int) (s:Int) (j:Nat):Bool:=comeB (stepB t points) (firstB t points s) j
theorem ZIj {t:List (El Za)} {points:List Int} {k j:Nat} (h:stepB t points k j=true):j < t.length:=by
 unfold stepB at h
 simp only[Bool.and_eq_true] at h
 exact ZeT h.2.1
theorem ZLl {t:List (El Za)} {points:List Int} {s:Int} {j:Nat} (h:firstB t points s j=true):j < t.length:=by
 unfold firstB at h
 simp only[Bool.and_eq_true] at h
 exact ZeT h.1
end Go.Ev
end

section
open Go
namespace Go.Ev
noncomputable def ZQ (t:List (El Za)) (points:List Int) (s:Int):List Int:=listOf t.length (endsB t points s)
def Zb5 (t:List (El Za)) (points:List Int) (s:Int):Bool:=flowOK t&&decide (points.length < 4611686018427387904)
def goB (t:List (El Za)) (points:List Int) (x:Int) (j:Nat):Bool:=nextB t x j&& !points.contains (j:Int)
def nodeP (t:List (El Za)) (s:Int) (M:Nat→Bool) (x:Int):Prop:=x=s∨∃j:Nat,x=(j:Int)∧M j=true∧fenceAtT t j=false
theorem ZPq {l:List Int} {n:Nat} (h:n+1≤l.length):l.take (n+1)=l.take n++[l.getD n 0]:=by
 have hn:n < l.length:=by omega
 rw[List.take_succ_eq_append_getElem hn,ZG hn]
theorem ZNP (t:List (El Za)) (points:List Int) (s:Int) (hk:Zb5 t points s=true):Goes (Zb8 t points s) (Zsy t points s) (ZQ t points s):=by
 unfold Zb5 at hk
 rw[Bool.and_eq_true] at hk
 obtain ⟨hf,hpl⟩:=hk
 have hpl:=of_decide_eq_true hpl
 have hlen:=Zbx hf
 generalize hn:t.length=n at hlen
 have kfe:∀k,k < n→ZeV (List.getD t k (dflt Za))=true:=fun k hk=>by
  have hmem:t.getD k (dflt Za)∈t:=by rw[ZG (by omega)];exact List.getElem_mem (by omega)
  exact ZSn (ZrN hf hmem)
 have main:∀(C:Nat→Bool) (cl:Int×List (Int×Int)),SetOK cl n C→(∀j,j < n→C j=points.contains (j:Int))→∀m,∀(M:Nat→Bool) (se:Int×List (Int×Int)) (open_:List Int) (len:Nat),len≤open_.length→2*(n - card n M)+len=m→SetOK se n M→
   (∀j,M j=true→Come (stepB t points) (firstB t points s) j)→(∀x∈open_.take len,nodeP t s M x)→(∀x,nodeP t s M x→x∈open_.take len∨∀j,goB t points x j=true→M j=true)→len≤card n M+1→
   Goes (Zb8 t points s) (.jmp (.l11 cl.1 cl.2 len se.1 open_ se.2)) (ZQ t points s):=by
  intro C cl hcl hC m
  induction m using Nat.strongRecOn with
  | _ m ih=>
  intro M se open_ len hl hm hs h1 h2 h3 h5
  cases len with
  | zero=>
   rw[Zh,Zb8,Ze,if_neg (by decide)]
   have hkl:Zbu (se.1,se.2)=true:=Nat.ble_eq_true_of_le (by have:=hs.few;unfold limit;show se.2.length*512≤_;omega)
   rw[Ze,if_pos hkl]
   have hv:(ZbV (se.1,se.2)).1=ZQ t points s:=by
    show listS se=_
    rw[hs.list (by omega)]
    unfold ZQ endsB
    rw[hn]
    refine Zt5 fun j _=>Zq8 (fun j hj=>?_) (fun k j hk hj=>?_) h1 j
    ·rcases h3 s (.inl rfl) with h | h
     ·simp at h
     ·exact h j hj
    ·unfold stepB at hj
     rw[Bool.and_eq_true] at hj
     rcases h3 (k:Int) (.inr ⟨k,rfl,hk,by simpa using hj.1⟩) with h | h
     ·simp at h
     ·exact h j hj.2
   rw[hv];exact .leaf
  | succ len=>
   have hc:= @ZfC n M
   have e:IntKind.i64.wrap (Int.ofNat (len+1) - 1)=(len:Int):=by
    rw[wrap_i64 (by simp <;> omega) (by simp <;> omega)];simp
   have g1:decide (Int.ofNat (len+1) > (0:Int))=true:=decide_eq_true (by simp <;> omega)
   have g2:(decide ((0:Int)≤(len:Int))&&decide ((len:Int) < Int.ofNat (len+1)))=true:=Zas (by omega)
   have g3:(decide ((0:Int)≤(len:Int))&&decide ((len:Int)≤Int.ofNat (len+1)))=true:=by simp;omega
   rw[Zh,Zb8,e,Ze,if_pos g1,Ze,if_pos g2,Ze,if_pos g3,Int.toNat_natCast]
   have htk:=ZPq hl
   generalize hx0:open_.getD len 0=x0 at htk
   have hd:open_.getD len (dflt (.int .i64))=x0:=hx0
   rw[hd]
   have kn:ZfM t x0=true:=hf
   rw[Ze,if_pos kn]
   have hnode:=h2 x0 (by rw[htk];simp)
   generalize hr:Zad t x0=r
   have hrm:∀y∈r,∃j:Nat,j < n∧nextB t x0 j=true∧y=(j:Int):=fun y hy=>by
    rw[←hr] at hy
    unfold Zad at hy
    rw[hn] at hy
    exact ZcE.1 hy
   have hrl:r.length≤n:=by rw[←hr];unfold Zad;rw[ZiO,hn];exact ZfC
   have hin:∀j:Nat,nextB t x0 j=true→(j:Int)∈r:=fun j hj=>by rw[←hr];exact ZcE.2 ⟨j,ZeT hj,hj,rfl⟩
   have inner:∀h,h≤r.length→∀(M1:Nat→Bool) (se1:Int×List (Int×Int)) (op1:List Int) (len1:Nat),len1≤op1.length→2*(n - card n M1)+len1 < m→SetOK se1 n M1→nodeP t s M1 x0→
     (∀j,M1 j=true→Come (stepB t points) (firstB t points s) j)→(∀x∈op1.take len1,nodeP t s M1 x)→(∀x,nodeP t s M1 x→x∈op1.take len1∨∀j,goB t points x j=true→M1 j=true∨(x=x0∧(j:Int)∈r.drop h))→len1≤card n M1+1→
     Goes (Zb8 t points s) (.jmp (.l17 cl.1 cl.2 len1 (h:Int) se1.1 op1 se1.2 (Int.ofNat r.length) r)) (ZQ t points s):=by
    refine down ?_ fun h hh ih2=>?_
    ·intro M1 se1 op1 len1 i1 i2 i3 i4 i5 i6 i7 i8
     rw[Zh,Zb8,Ze,if_neg (by rw[Zw (Nat.lt_irrefl _)];decide)]
     refine ih _ i2 M1 se1 op1 len1 i1 rfl i3 i5 i6 (fun x hx=>(i7 x hx).imp id fun h j hj=>(h j hj).resolve_right (by simp)) i8
    ·intro M1 se1 op1 len1 i1 i2 i3 i4 i5 i6 i7 i8
     obtain ⟨y,hy,hyN,hxy⟩:=hrm r[h] (List.getElem_mem hh)
     have hdy:List.getD r h (dflt (.int .i64))=(y:Int):=by rw[←hxy];exact ZG hh
     have hhas:(Zq (cl.1,cl.2) (y:Int)).1=points.contains (y:Int):=by
      show hasS cl (y:Int)=_
      rw[hcl.has (by omega),Int.toNat_natCast,decide_eq_true (by omega),Bool.true_and,hC y hy]
     have hhas2:(Zq (cl.1,cl.2) (y:Int)).2=cl:=rfl
     have hput:Zr (se1.1,se1.2) (y:Int)=putS se1 (y:Int):=rfl
     have hdr:∀z,z∈r.drop h↔z=(y:Int)∨z∈r.drop (h+1):=fun z=>by rw[ZM hh,List.mem_cons,hxy]
     rw[Zh,Zb8,Ze,if_pos (ZK hh),Ze,if_pos (Zas hh),Ze,Int.toNat_natCast,hdy,hhas,hhas2,hput,Zo (by omega)]
     have skip:(goB t points x0 y=true→M1 y=true)→Goes (Zb8 t points s) (.jmp (.l17 cl.1 cl.2 len1 ((h+1:Nat):Int) se1.1 op1 se1.2 (Int.ofNat r.length) r)) (ZQ t points s):=fun hsk=>
      ih2 M1 se1 op1 len1 i1 i2 i3 i4 i5 i6 (fun x hx=>(i7 x hx).imp id fun hg j hj=>by
       rcases hg j hj with h | ⟨hx0,h⟩
       ·exact .inl h
       ·rcases (hdr _).1 h with h | h
        ·have:j=y:=by omega
         subst this
         rw[hx0] at hj
         exact .inl (hsk hj)
        ·exact .inr ⟨hx0,h⟩) i8
     cases hpt:points.contains (y:Int) with
     | true=>
      rw[if_neg (by decide)]
      exact skip fun h=>by unfold goB at h;rw[hpt,Bool.not_true,Bool.and_false] at h;cases h
     | false=>
      rw[if_pos (by decide),Ze]
      cases hMy:M1 y with
      | true=>
       have hno:=i3.put_no (by omega) (i:=(y:Int)) (fun h=>by rw[Int.toNat_natCast,hMy] at h;cases h.2.2)
       rw[hno,if_neg (by simp)]
       exact skip fun _=>hMy
      | false=>
       obtain ⟨p1,p2⟩:=i3.put (by omega) hy hMy
       have hgo:goB t points x0 y=true:=by unfold goB;rw[hyN,hpt];rfl
       have hcome:Come (stepB t points) (firstB t points s) y:=by
        rcases i4 with h | ⟨k,hk,hMk,hfk⟩
        ·subst h;exact .start hgo
        ·subst hk;exact .step (i5 k hMk) (by unfold stepB;rw[hfk];exact hgo)
       have hcard:=Zos hMy hy
       have hcl2:= @ZfC n (fun k=>M1 k || (k==y))
       have mono:∀x,nodeP t s M1 x→nodeP t s (fun k=>M1 k || (k==y)) x:=fun x hx=>hx.imp id fun ⟨k,h1,h2,h3⟩=>⟨k,h1,by show (M1 k || (k==y))=true;rw[h2];rfl,h3⟩
       have hcc:∀k,(M1 k || (k==y))=true→Come (stepB t points) (firstB t points s) k:=fun k hk=>by
        simp only[Bool.or_eq_true,beq_iff_eq] at hk
        rcases hk with hk | hk
        ·exact i5 k hk
        ·subst hk;exact hcome
       have keep:∀(o:List Int),(∀x∈op1.take len1,x∈o)→(fenceAtT t y=false→(y:Int)∈o)→∀x,nodeP t s (fun k=>M1 k || (k==y)) x→x∈o∨∀j,goB t points x j=true→(M1 j || (j==y))=true∨(x=x0∧(j:Int)∈r.drop (h+1)):=fun o ho hyo x hx=>by
        have old:nodeP t s M1 x→x∈o∨∀j,goB t points x j=true→(M1 j || (j==y))=true∨(x=x0∧(j:Int)∈r.drop (h+1)):=fun hx=>by
         rcases i7 x hx with h | h
         ·exact .inl (ho x h)
         ·refine .inr fun j hj=>?_
          rcases h j hj with h | ⟨hx0,h⟩
          ·exact .inl (by rw[h];rfl)
          ·rcases (hdr _).1 h with h | h
           ·have:j=y:=by omega
            subst this;exact .inl (by simp)
           ·exact .inr ⟨hx0,h⟩
        rcases hx with hx | ⟨k,hk,hMk,hfk⟩
        ·exact old (.inl hx)
        ·have hMk:(M1 k || (k==y))=true:=hMk
         simp only[Bool.or_eq_true,beq_iff_eq] at hMk
         rcases hMk with hMk | hMk
         ·exact old (.inr ⟨k,hk,hMk,hfk⟩)
         ·subst hMk;subst hk;exact .inl (hyo hfk)
       have vf:ZhB (List.getD t y (dflt Za))=fenceAtT t y:=rfl
       rw[p1,if_pos rfl,Ze,hn,if_pos (Zas hy),Ze,Int.toNat_natCast,if_pos (kfe y hy),Ze,vf]
       cases hfy:fenceAtT t y with
       | true=>
        rw[if_neg (by decide)]
        exact ih2 _ _ op1 len1 i1 (by omega) p2 (mono x0 i4) hcc (fun x hx=>mono x (i6 x hx)) (keep _ (fun x hx=>hx) (fun h=>by rw[hfy] at h;cases h)) (by omega)
       | false=>
        have htl:(op1.take len1).length=len1:=by rw[List.length_take];omega
        rw[if_pos (by decide),Ze,if_pos (Nat.ble_eq_true_of_le (by rw[htl];unfold limit;omega))]
        have htake:(op1.take len1++[(y:Int)]).take (op1.take len1++[(y:Int)]).length=op1.take len1++[(y:Int)]:=List.take_length
        have hl2:(op1.take len1++[(y:Int)]).length=len1+1:=by rw[List.length_append,htl];rfl
        refine ih2 _ _ (op1.take len1++[(y:Int)]) _ (Nat.le_refl _) (by omega) p2 (mono x0 i4) hcc (fun x hx=>?_) ?_ (by omega)
        ·rw[htake,List.mem_append] at hx
         rcases hx with hx | hx
         ·exact mono x (i6 x hx)
         ·simp only[List.mem_singleton] at hx
          exact .inr ⟨y,hx,by simp,hfy⟩
        ·rw[htake]
         exact keep _ (fun x hx=>List.mem_append_left _ hx) (fun _=>List.mem_append_right _ (by simp))
   refine inner 0 (Nat.zero_le _) M se open_ len (by omega) (by omega) hs hnode h1 (fun x hx=>h2 x (by rw[htk];simp[hx])) (fun x hx=>?_) (by omega)
   rcases h3 x hx with h | h
   ·rw[htk,List.mem_append] at h
    rcases h with h | h
    ·exact .inl h
    ·simp only[List.mem_singleton] at h
     refine .inr fun j hj=>.inr ⟨h,?_⟩
     subst h
     unfold goB at hj
     rw[Bool.and_eq_true] at hj
     rw[List.drop_zero]
     exact hin j hj.1
   ·exact .inr fun j hj=>.inl (h j hj)
 have hnew:Zz (Int.ofNat (List.length t))=((n:Int),[]):=by
  rw[hn]
  unfold Zz
  simp
  omega
 have first:∀h,h≤points.length→∀(C:Nat→Bool) (cl:Int×List (Int×Int)),SetOK cl n C→(∀j:Nat,j < n→((C j=true∨(j:Int)∈points.drop h)↔(j:Int)∈points))→Goes (Zb8 t points s) (.jmp (.l4 (h:Int) cl.1 cl.2)) (ZQ t points s):=by
  refine down ?_ fun h hh ih=>?_
  ·intro C cl hcl hC
   rw[Zh,Zb8,Ze,if_neg (by rw[Zw (Nat.lt_irrefl _)];decide),hnew]
   refine main C cl hcl (fun j hj=>?_) _ (fun _=>false) ((n:Int),[]) [s] 1 (by simp) rfl (SetOK.new n) (fun j h=>by cases h) (fun x hx=>.inl (by simpa using hx)) (fun x hx=>.inl ?_) (by omega)
   ·have:=hC j hj
    rw[List.drop_length] at this
    rw[Bool.eq_iff_iff,List.contains_iff_mem,←this]
    simp
   ·rcases hx with hx | ⟨j,_,h,_⟩
    ·simpa using hx
    ·cases h
  ·intro C cl hcl hC
   rw[Zh,Zb8,Ze,if_pos (ZK hh),Ze,if_pos (Zas hh),Int.toNat_natCast,Zo (by omega)]
   have hd:points.getD h (dflt (.int .i64))=points[h]:=ZG hh
   rw[hd]
   have hput:Zr (cl.1,cl.2) points[h]=putS cl points[h]:=rfl
   rw[hput]
   have hdr:∀z,z∈points.drop h↔z=points[h]∨z∈points.drop (h+1):=fun z=>by rw[ZM hh,List.mem_cons]
   generalize points[h]=x at hdr
   by_cases hx:0≤x∧x < n∧C x.toNat=false
   ·obtain ⟨y,rfl⟩:=Int.eq_ofNat_of_zero_le hx.1
    rw[Int.toNat_natCast] at hx
    obtain ⟨_,p2⟩:=hcl.put (by omega) (show y < n by omega) hx.2.2
    refine ih _ _ p2 fun j hj=>?_
    rw[←hC j hj,hdr]
    simp only[Bool.or_eq_true,beq_iff_eq]
    constructor
    ·rintro ((h | h) | h)
     ·exact .inl h
     ·exact .inr (.inl (by omega))
     ·exact .inr (.inr h)
    ·rintro (h | h | h)
     ·exact .inl (.inl h)
     ·exact .inl (.inr (by omega))
     ·exact .inr h
   ·rw[hcl.put_no (by omega) hx]
    refine ih C cl hcl fun j hj=>?_
    rw[←hC j hj,hdr]
    constructor
    ·rintro (h | h)
     ·exact .inl h
     ·exact .inr (.inr h)
    ·rintro (h | h | h)
     ·exact .inl h
     ·left
      cases hCj:C j with
      | true=>rfl
      | false=>exact absurd ⟨by omega,by omega,by rw[←h,Int.toNat_natCast];exact hCj⟩ hx
     ·exact .inr h
 unfold Zsy
 rw[hnew]
 exact first 0 (Nat.zero_le _) (fun _=>false) ((n:Int),[]) (SetOK.new n) fun j _=>by simp
end Go.Ev
end

section
open Go Go.Ev
namespace Go.Ev
noncomputable section
noncomputable def Zxa:Run:=entG ZhY Zp0 (fun a=>Zb5 a.1 a.2.1 a.2.2.1) (fun a=>ZQ a.1 a.2.1 a.2.2.1)
theorem ZAu:EntOK Go.Proofs.Tryz.prog 63 Zxa:=ZH (tb:=Ztn) (c:=Zr6) ZJg (by kernel_rfl) (by kernel_rfl) (by kernel_rfl) (fun a=>by kernel_rfl) fun ⟨t,points,s,_⟩ hk=>Zm (c:=Zr6) (K:=fun v=>(Zp0 v,tps (toForms ZhY (t,points,s,())))) (S:=Zhn t points s) (by kernel_rfl) (ZMa t points s) (ZJD t points s) (ZNP t points s hk)
end
end Go.Ev
end

section
open Go Go.Ev
namespace Go.Ev
noncomputable section
def Zaz:Sig:=[(false,(.sl (.int .i64))),(false,(.int .i64))]
noncomputable def Zdj:Tbl:=[]
theorem Znc:∀p∈Zdj,EntOK Go.Proofs.Tryz.prog p.1 p.2:=Zt
noncomputable def ZbN:Code:=Go.Proofs.Tryz.f99.body.getD .skip
def ZcB:Tb:=[(3,⟨[0,1,7,8],[]⟩)]
inductive Za9 where | l3 (h:Int)
def Za8 (s:List Int) (v_:Int):Za9→JT Za9 (Int) |.l3 h=>.br (decide (h < (Int.ofNat (List.length s)))) (.br ((decide ((0:Int)≤h))&&(decide (h < (Int.ofNat (List.length s))))) (.br (v_==(List.getD s (Int.toNat h) (dflt (.int .i64)))) (.leaf h) (.jmp (.l3 (IntKind.i64.wrap (h+(1:Int)))))) (.no)) (.leaf (-1:Int))
def ZgD (s:List Int) (v_:Int):JT Za9 (Int):=.jmp (.l3 (0:Int))
def ZbL:Int→AV:=fun (r:Int)=>.d (.int .i64) r
def Zar (s:List Int) (v_:Int):Za9→Nat×St |.l3 h=>(3,⟨mkTm 19 [(0,.d (.sl (.int .i64)) s),(1,.d (.int .i64) v_),(7,.d (.int .i64) (Int.ofNat (List.length s))),(8,.d (.int .i64) h)],[]⟩)
theorem Zm6 (s:List Int) (v_:Int) (L:Lt):entryA Go.Proofs.Tryz.prog (clOf Zdj) ZcB Go.Proofs.Tryz.f99 ZbN L (toForms Zaz (s,v_,()))=(ZgD s v_).run (fun v=>some (ZbL v,tps (toForms Zaz (s,v_,())))) fun j=>L (Zar s v_ j).1 (Zar s v_ j).2:=by kernel_rfl
theorem Znd (s:List Int) (v_:Int):∀(L:Lt) (j:Za9),procOf (procsF Go.Proofs.Tryz.prog (clOf Zdj) ZcB Go.Proofs.Tryz.f99 ZbN (toForms Zaz (s,v_,()))) (Zar s v_ j).1 L (Zar s v_ j).2=(Za8 s v_ j).run (fun v=>some (ZbL v,tps (toForms Zaz (s,v_,())))) fun j=>L (Zar s v_ j).1 (Zar s v_ j).2 | L,.l3 h=>by kernel_rfl
end
end Go.Ev
end

section
open Go
namespace Go.Ev
def indexI (v:Int):List Int→Nat→Int
 | [],_=> -1
 | x :: r,k=>if v=x then (k:Int) else indexI v r (k+1)
theorem ZL6 {v:Int} :∀ {l:List Int} {k:Nat},decide (indexI v l k≥0)=l.contains v
 | [],k=>rfl
 | x :: r,k=>by
  unfold indexI
  rw[List.contains_cons]
  by_cases h:v=x
  ·subst h;rw[if_pos rfl];simp
  ·rw[if_neg h,ZL6]
   have:(v==x)=false:=by simpa using h
   rw[this,Bool.false_or]
def Zbb (s:List Int) (v:Int):Int:=indexI v s 0
def ZaE (s:List Int) (v:Int):Bool:=decide (s.length < 4611686018427387904)
theorem ZoX (s:List Int) (v:Int) (hk:ZaE s v=true):Goes (Za8 s v) (ZgD s v) (Zbb s v):=by
 have hn:s.length < 4611686018427387904:=of_decide_eq_true hk
 have loop:∀k,k≤s.length→Goes (Za8 s v) (.jmp (.l3 (k:Int))) (indexI v (s.drop k) k):=by
  refine down ?_ fun k hk ih=>?_
  ·rw[Zh,Za8,Ze,if_neg (by rw[Zw (Nat.lt_irrefl _)];decide),List.drop_length]
   exact .leaf
  ·have hd:s.getD k (dflt (.int .i64))=s[k]:=ZG hk
   rw[Zh,Za8,Ze,if_pos (ZK hk),Ze,if_pos (Zas hk),Ze,Int.toNat_natCast,hd,ZM hk,indexI,Zo (by omega)]
   by_cases h:v=s[k]
   ·rw[if_pos h,if_pos (by simpa using h)];exact .leaf
   ·rw[if_neg h,if_neg (by simpa using h)];exact ih
 exact loop 0 (Nat.zero_le _)
end Go.Ev
end

section
open Go Go.Ev
namespace Go.Ev
noncomputable section
noncomputable def ZgT:Run:=entG Zaz ZbL (fun a=>ZaE a.1 a.2.1) (fun a=>Zbb a.1 a.2.1)
theorem Zm9:EntOK Go.Proofs.Tryz.prog 99 ZgT:=ZH (tb:=ZcB) (c:=ZbN) Znc (by kernel_rfl) (by kernel_rfl) (by kernel_rfl) (fun a=>by kernel_rfl) fun ⟨s,v_,_⟩ hk=>Zm (c:=ZbN) (K:=fun v=>(ZbL v,tps (toForms Zaz (s,v_,())))) (S:=Zar s v_) (by kernel_rfl) (Zm6 s v_) (Znd s v_) (ZoX s v_ hk)
end
end Go.Ev
end

section
open Go Go.Ev
namespace Go.Ev
noncomputable section
def Zaj:Sig:=[(false,(.sl (.int .i64))),(false,(.int .i64))]
noncomputable def Zcf:Tbl:=[(99,ZgT)]
theorem ZkZ:∀p∈Zcf,EntOK Go.Proofs.Tryz.prog p.1 p.2:=Zg Zm9 (Zt)
noncomputable def Zbl:Code:=Go.Proofs.Tryz.f62.body.getD .skip
def Zb3:Tb:=[]
def ZeR (s:List Int) (v_:Int):Empty→JT Empty (Bool):=fun j=>nomatch j
def Zek (s:List Int) (v_:Int):JT Empty (Bool):=.br (ZaE s v_) (.leaf (decide ((Zbb s v_)≥(0:Int)))) (.no)
def ZaL (s:List Int) (v_:Int):Bool:=bif (ZaE s v_) then (decide ((Zbb s v_)≥(0:Int))) else false
def Zac (s:List Int) (v_:Int):Bool:=bif (ZaE s v_) then true else false
theorem Zll (s:List Int) (v_:Int) (hk:Zac s v_=true):Goes (ZeR s v_) (Zek s v_) (ZaL s v_):=Goes.brk hk (fun hk=>Goes.leaf) (fun hk=>Goes.nok hk)
def Zbm:Bool→AV:=fun (r:Bool)=>.d .bool r
def Zab (s:List Int) (v_:Int):Empty→Nat×St:=fun j=>nomatch j
theorem ZkW (s:List Int) (v_:Int) (L:Lt):entryA Go.Proofs.Tryz.prog (clOf Zcf) Zb3 Go.Proofs.Tryz.f62 Zbl L (toForms Zaj (s,v_,()))=(Zek s v_).run (fun v=>some (Zbm v,tps (toForms Zaj (s,v_,())))) fun j=>L (Zab s v_ j).1 (Zab s v_ j).2:=by kernel_rfl
theorem Zk0 (s:List Int) (v_:Int):∀(L:Lt) (j:Empty),procOf (procsF Go.Proofs.Tryz.prog (clOf Zcf) Zb3 Go.Proofs.Tryz.f62 Zbl (toForms Zaj (s,v_,()))) (Zab s v_ j).1 L (Zab s v_ j).2=(ZeR s v_ j).run (fun v=>some (Zbm v,tps (toForms Zaj (s,v_,())))) fun j=>L (Zab s v_ j).1 (Zab s v_ j).2:=fun L j=>nomatch j
noncomputable def ZeU:Run:=entG Zaj Zbm (fun a=>Zac a.1 a.2.1) (fun a=>ZaL a.1 a.2.1)
theorem ZkI:EntOK Go.Proofs.Tryz.prog 62 ZeU:=ZH (tb:=Zb3) (c:=Zbl) ZkZ (by kernel_rfl) (by kernel_rfl) (by kernel_rfl) (fun a=>by kernel_rfl) fun ⟨s,v_,_⟩ hk=>Zm (c:=Zbl) (K:=fun v=>(Zbm v,tps (toForms Zaj (s,v_,())))) (S:=Zab s v_) (by kernel_rfl) (ZkW s v_) (Zk0 s v_) (Zll s v_ hk)
end
end Go.Ev
end

section
open Go Go.Ev
namespace Go.Ev
noncomputable section
def Zid:Sig:=[(true,(.sl Za)),(false,(.sl (.int .i64))),(false,(.int .i64)),(false,(.int .i64))]
noncomputable def Zwl:Tbl:=[(63,Zxa),(62,ZeU)]
theorem ZLa:∀p∈Zwl,EntOK Go.Proofs.Tryz.prog p.1 p.2:=Zg ZAu (Zg ZkI (Zt))
noncomputable def ZrM:Code:=Go.Proofs.Tryz.f41.body.getD .skip
def ZtU:Tb:=[]
def ZDp (t:List (El Za)) (points:List Int) (s:Int) (l:Int):Empty→JT Empty (Bool):=fun j=>nomatch j
def ZzM (t:List (El Za)) (points:List Int) (s:Int) (l:Int):JT Empty (Bool):=.br (Zb5 t points s) (.br (Zac (ZQ t points s) l) (.leaf (ZaL (ZQ t points s) l)) (.no)) (.no)
def ZdK (t:List (El Za)) (points:List Int) (s:Int) (l:Int):Bool:=bif (Zb5 t points s) then bif (Zac (ZQ t points s) l) then (ZaL (ZQ t points s) l) else false else false
def Zhv (t:List (El Za)) (points:List Int) (s:Int) (l:Int):Bool:=bif (Zb5 t points s) then bif (Zac (ZQ t points s) l) then true else false else false
theorem ZNT (t:List (El Za)) (points:List Int) (s:Int) (l:Int) (hk:Zhv t points s l=true):Goes (ZDp t points s l) (ZzM t points s l) (ZdK t points s l):=Goes.brk hk (fun hk=>Goes.brk hk (fun hk=>Goes.leaf) (fun hk=>Goes.nok hk)) (fun hk=>Goes.nok hk)
def Zqf:Bool→AV:=fun (r:Bool)=>.d .bool r
def ZhD (t:List (El Za)) (points:List Int) (s:Int) (l:Int):Empty→Nat×St:=fun j=>nomatch j
theorem ZLW (t:List (El Za)) (points:List Int) (s:Int) (l:Int) (L:Lt):entryA Go.Proofs.Tryz.prog (clOf Zwl) ZtU Go.Proofs.Tryz.f41 ZrM L (toForms Zid (t,points,s,l,()))=(ZzM t points s l).run (fun v=>some (Zqf v,tps (toForms Zid (t,points,s,l,())))) fun j=>L (ZhD t points s l j).1 (ZhD t points s l j).2:=by kernel_rfl
theorem ZLX (t:List (El Za)) (points:List Int) (s:Int) (l:Int):∀(L:Lt) (j:Empty),procOf (procsF Go.Proofs.Tryz.prog (clOf Zwl) ZtU Go.Proofs.Tryz.f41 ZrM (toForms Zid (t,points,s,l,()))) (ZhD t points s l j).1 L (ZhD t points s l j).2=(ZDp t points s l j).run (fun v=>some (Zqf v,tps (toForms Zid (t,points,s,l,())))) fun j=>L (ZhD t points s l j).1 (ZhD t points s l j).2:=fun L j=>nomatch j
noncomputable def ZB1:Run:=entG Zid Zqf (fun a=>Zhv a.1 a.2.1 a.2.2.1 a.2.2.2.1) (fun a=>ZdK a.1 a.2.1 a.2.2.1 a.2.2.2.1)
theorem ZLt:EntOK Go.Proofs.Tryz.prog 41 ZB1:=ZH (tb:=ZtU) (c:=ZrM) ZLa (by kernel_rfl) (by kernel_rfl) (by kernel_rfl) (fun a=>by kernel_rfl) fun ⟨t,points,s,l,_⟩ hk=>Zm (c:=ZrM) (K:=fun v=>(Zqf v,tps (toForms Zid (t,points,s,l,())))) (S:=ZhD t points s l) (by kernel_rfl) (ZLW t points s l) (ZLX t points s l) (ZNT t points s l hk)
end
end Go.Ev
end

section
open Go Go.Ev
namespace Go.Ev
noncomputable section
def Zgw:Sig:=[(true,Zc)]
noncomputable def Ztg:Tbl:=[(31,ZiH),(41,ZB1)]
theorem ZGC:∀p∈Ztg,EntOK Go.Proofs.Tryz.prog p.1 p.2:=Zg Zj6 (Zg ZLt (Zt))
noncomputable def Zok:Code:=Go.Proofs.Tryz.f22.body.getD .skip
def Zsa:Tb:=[(4,⟨[1,3,7,8,9],[(4,106)]⟩)]
inductive Zkk where | l4 (h:Int) (out:List (El Zd))
def ZkC (p:El Zc):Zkk→JT Zkk (List (El Zd)) |.l4 h out=>.br (decide (h < (Int.ofNat (List.length (Zl p))))) (.br ((decide ((0:Int)≤h))&&(decide (h < (Int.ofNat (List.length (Zl p)))))) (.br ((decide ((0:Int)≤(List.getD (Zl p) (Int.toNat h) (dflt Zd)).1))&&(decide ((List.getD (Zl p) (Int.toNat h) (dflt Zd)).1 < (Int.ofNat (List.length p.2))))) (.br (Zhv (List.getD p.2 (Int.toNat (List.getD (Zl p) (Int.toNat h) (dflt Zd)).1) (dflt (.sl Za))) [] (List.getD (Zl p) (Int.toNat h) (dflt Zd)).2.1 (List.getD (Zl p) (Int.toNat h) (dflt Zd)).2.2) (.br (ZdK (List.getD p.2 (Int.toNat (List.getD (Zl p) (Int.toNat h) (dflt Zd)).1) (dflt (.sl Za))) [] (List.getD (Zl p) (Int.toNat h) (dflt Zd)).2.1 (List.getD (Zl p) (Int.toNat h) (dflt Zd)).2.2) (.br (Nat.ble (((List.length out)+1)*24) limit) (.jmp (.l4 (IntKind.i64.wrap (h+(1:Int))) (out++[(List.getD (Zl p) (Int.toNat h) (dflt Zd))]))) (.no)) (.jmp (.l4 (IntKind.i64.wrap (h+(1:Int))) out))) (.no)) (.no)) (.no)) (.leaf out)
def ZqF (p:El Zc):JT Zkk (List (El Zd)):=.br (Z6 p) (.jmp (.l4 (0:Int) [])) (.no)
def ZnQ:List (El Zd)→AV:=fun (r:List (El Zd))=>.rw 57 Zd r
def Zff (p:El Zc):Zkk→Nat×St |.l4 h out=>(4,⟨mkTm 30 [(1,.pt 2 0 0),(3,.own 4 0 none),(7,.own 8 0 none),(8,.d (.int .i64) (Int.ofNat (List.length (Zl p)))),(9,.d (.int .i64) h)],[(2,0,.box 26 [.d (.sl Zy) p.1,.d (.sl (.sl Za)) p.2] none),(4,0,.row 57 Zd out false),(8,0,.row 57 Zd (Zl p) false)]⟩)
theorem ZGJ (p:El Zc) (L:Lt):entryA Go.Proofs.Tryz.prog (clOf Ztg) Zsa Go.Proofs.Tryz.f22 Zok L (toForms Zgw (p,()))=(ZqF p).run (fun v=>some (ZnQ v,tps (toForms Zgw (p,())))) fun j=>L (Zff p j).1 (Zff p j).2:=by kernel_rfl
theorem ZHW (p:El Zc):∀(L:Lt) (j:Zkk),procOf (procsF Go.Proofs.Tryz.prog (clOf Ztg) Zsa Go.Proofs.Tryz.f22 Zok (toForms Zgw (p,()))) (Zff p j).1 L (Zff p j).2=(ZkC p j).run (fun v=>some (ZnQ v,tps (toForms Zgw (p,())))) fun j=>L (Zff p j).1 (Zff p j).2 | L,.l4 h out=>by kernel_rfl
end
end Go.Ev
end

section
open Go
namespace Go.Ev
noncomputable def openB (p:El Zc) (x:El Zd):Bool:=ZdK (List.getD p.2 (Int.toNat x.1) (dflt (.sl Za))) [] x.2.1 x.2.2
noncomputable def openK (p:El Zc) (x:El Zd):Bool:=(decide ((0:Int)≤x.1)&&decide (x.1 < Int.ofNat (List.length p.2)))&&Zhv (List.getD p.2 (Int.toNat x.1) (dflt (.sl Za))) [] x.2.1 x.2.2
noncomputable def Zn (p:El Zc):List (El Zd):=(Zl p).filter (openB p)
noncomputable def ZaI (p:El Zc):Bool:=Z6 p&&(decide ((Zl p).length < 10000000000)&&(Zl p).all (openK p))
theorem ZJU (p:El Zc) (hk:ZaI p=true):Goes (ZkC p) (ZqF p) (Zn p):=by
 unfold ZaI at hk
 rw[Bool.and_eq_true,Bool.and_eq_true] at hk
 obtain ⟨k1,k2,k3⟩:=hk
 have hN:=of_decide_eq_true k2
 unfold ZqF Zn
 rw[Ze,if_pos k1]
 obtain ⟨l,hl⟩:∃l,Zl p=l:=⟨_,rfl⟩
 rw[hl] at hN k3
 rw[hl]
 have loop:∀k,k≤l.length→∀out:List (El Zd),out.length≤k→Goes (ZkC p) (.jmp (.l4 (k:Int) out)) (out++(l.drop k).filter (openB p)):=by
  refine down ?_ fun k hk ih=>?_
  ·intro out ho
   rw[Zh,ZkC,hl,Ze,if_neg (by rw[Zw (Nat.lt_irrefl _)];decide),List.drop_length]
   simp only[List.filter_nil,List.append_nil]
   exact .leaf
  ·intro out ho
   have b1:Nat.ble ((out.length+1)*24) limit=true:=Nat.ble_eq_true_of_le (by unfold limit;omega)
   have hx:=List.all_eq_true.1 k3 l[k] (List.getElem_mem hk)
   unfold openK at hx
   rw[Bool.and_eq_true] at hx
   rw[Zh,ZkC,hl,ZM hk,List.filter_cons]
   simp only[Ze,ZK hk,nng,Bool.and_self,if_true,Int.toNat_natCast,ZG hk,b1,Zo (k:=k) (by omega)]
   rw[if_pos hx.1,if_pos hx.2]
   by_cases c:openB p l[k]=true
   ·have c':=c
    unfold openB at c'
    rw[if_pos c',if_pos c]
    have:=ih (out++[l[k]]) (by simp;omega)
    rw[List.append_assoc] at this
    exact this
   ·have c':=c
    unfold openB at c'
    rw[if_neg c',if_neg c]
    exact ih out (by omega)
 have:=loop 0 (Nat.zero_le _) [] (Nat.zero_le _)
 rw[List.nil_append,List.drop_zero] at this
 exact this
end Go.Ev
end

section
open Go Go.Ev
namespace Go.Ev
noncomputable section
noncomputable def Zh3:Run:=entG Zgw ZnQ (fun a=>ZaI a.1) (fun a=>Zn a.1)
theorem ZiC:EntOK Go.Proofs.Tryz.prog 22 Zh3:=ZH (tb:=Zsa) (c:=Zok) ZGC (by kernel_rfl) (by kernel_rfl) (by kernel_rfl) (fun a=>by kernel_rfl) fun ⟨p,_⟩ hk=>Zm (c:=Zok) (K:=fun v=>(ZnQ v,tps (toForms Zgw (p,())))) (S:=Zff p) (by kernel_rfl) (ZGJ p) (ZHW p) (ZJU p hk)
end
end Go.Ev
end

section
open Go Go.Ev
namespace Go.Ev
noncomputable section
def ZpC:Sig:=[(false,(.sl Zd)),(false,(.int .i64))]
noncomputable def ZGt:Tbl:=[]
theorem ZP0:∀p∈ZGt,EntOK Go.Proofs.Tryz.prog p.1 p.2:=Zt
noncomputable def ZBp:Code:=Go.Proofs.Tryz.f21.body.getD .skip
def ZCk:Tb:=[(4,⟨[1,5,8,9,10],[(6,106)]⟩)]
inductive ZyM where | l4 (h:Int) (out:List (El Zd))
def ZyQ (l:List (El Zd)) (t:Int):ZyM→JT ZyM (List (El Zd)) |.l4 h out=>.br (decide (h < (Int.ofNat (List.length l)))) (.br ((decide ((0:Int)≤h))&&(decide (h < (Int.ofNat (List.length l))))) (.br ((List.getD l (Int.toNat h) (dflt Zd)).1==t) (.br (Nat.ble (((List.length out)+1)*24) limit) (.jmp (.l4 (IntKind.i64.wrap (h+(1:Int))) (out++[(List.getD l (Int.toNat h) (dflt Zd))]))) (.no)) (.jmp (.l4 (IntKind.i64.wrap (h+(1:Int))) out))) (.no)) (.leaf out)
def ZLi (l:List (El Zd)) (t:Int):JT ZyM (List (El Zd)):=.jmp (.l4 (0:Int) [])
def ZBC:List (El Zd)→AV:=fun (r:List (El Zd))=>.rw 57 Zd r
def Zr8 (l:List (El Zd)) (t:Int):ZyM→Nat×St |.l4 h out=>(4,⟨mkTm 24 [(1,.d (.int .i64) t),(5,.own 6 0 none),(8,.d (.sl Zd) l),(9,.d (.int .i64) (Int.ofNat (List.length l))),(10,.d (.int .i64) h)],[(6,0,.row 57 Zd out false)]⟩)
theorem ZQb (l:List (El Zd)) (t:Int) (L:Lt):entryA Go.Proofs.Tryz.prog (clOf ZGt) ZCk Go.Proofs.Tryz.f21 ZBp L (toForms ZpC (l,t,()))=(ZLi l t).run (fun v=>some (ZBC v,tps (toForms ZpC (l,t,())))) fun j=>L (Zr8 l t j).1 (Zr8 l t j).2:=by kernel_rfl
theorem ZQP (l:List (El Zd)) (t:Int):∀(L:Lt) (j:ZyM),procOf (procsF Go.Proofs.Tryz.prog (clOf ZGt) ZCk Go.Proofs.Tryz.f21 ZBp (toForms ZpC (l,t,()))) (Zr8 l t j).1 L (Zr8 l t j).2=(ZyQ l t j).run (fun v=>some (ZBC v,tps (toForms ZpC (l,t,())))) fun j=>L (Zr8 l t j).1 (Zr8 l t j).2 | L,.l4 h out=>by kernel_rfl
end
end Go.Ev
end

section
open Go Go.Ev
namespace Go.Ev
noncomputable section
def Zgz:Sig:=[(false,.str)]
noncomputable def ZtS:Tbl:=[]
theorem ZG3:∀p∈ZtS,EntOK Go.Proofs.Tryz.prog p.1 p.2:=Zt
noncomputable def ZnX:Code:=Go.Proofs.Tryz.f89.body.getD .skip
def Zqa:Tb:=[(5,⟨[0,3,4,5,10],[(4,248)]⟩),(18,⟨[3,8],[]⟩)]
inductive Zks where | l5 (line:Int) (out:List (El Zj)) (pos:Nat) (col:Int) | l18 (out:List (El Zj)) (i:Int)
def Zb1 (s:ByteArray):Zks→JT Zks (List (El Zj)) |.l5 line out pos col=>.br (decide (pos < (ByteArray.size s))) (.br (decide ((Int.ofNat (List.length out)) > (0:Int))) (.br ((decide ((0:Int)≤(IntKind.i64.wrap ((Int.ofNat (List.length out)) - (1:Int)))))&&(decide ((IntKind.i64.wrap ((Int.ofNat (List.length out)) - (1:Int))) < (Int.ofNat (List.length out))))) (.br ((decide ((0:Int)≤(IntKind.i64.wrap ((Int.ofNat (List.length out)) - (1:Int)))))&&(decide ((IntKind.i64.wrap ((Int.ofNat (List.length out)) - (1:Int))) < (Int.ofNat (List.length out))))) (.br (Nat.ble (((List.length (List.set out (Int.toNat (IntKind.i64.wrap ((Int.ofNat (List.length out)) - (1:Int)))) ((List.getD out (Int.toNat (IntKind.i64.wrap ((Int.ofNat (List.length out)) - (1:Int)))) (dflt Zj)).1,((List.getD out (Int.toNat (IntKind.i64.wrap ((Int.ofNat (List.length out)) - (1:Int)))) (dflt Zj)).2.1,((IntKind.i64.wrap ((Int.ofNat pos) - (List.getD out (Int.toNat (IntKind.i64.wrap ((Int.ofNat (List.length out)) - (1:Int)))) (dflt Zj)).2.1)),(List.getD out (Int.toNat (IntKind.i64.wrap ((Int.ofNat (List.length out)) - (1:Int)))) (dflt Zj)).2.2.2)))))+1)*48) limit) (.br ((Int.ofNat (Utf8.decode s pos).1)==(10:Int)) (.jmp (.l5 (IntKind.i64.wrap (line+(1:Int))) ((List.set out (Int.toNat (IntKind.i64.wrap ((Int.ofNat (List.length out)) - (1:Int)))) ((List.getD out (Int.toNat (IntKind.i64.wrap ((Int.ofNat (List.length out)) - (1:Int)))) (dflt Zj)).1,((List.getD out (Int.toNat (IntKind.i64.wrap ((Int.ofNat (List.length out)) - (1:Int)))) (dflt Zj)).2.1,((IntKind.i64.wrap ((Int.ofNat pos) - (List.getD out (Int.toNat (IntKind.i64.wrap ((Int.ofNat (List.length out)) - (1:Int)))) (dflt Zj)).2.1)),(List.getD out (Int.toNat (IntKind.i64.wrap ((Int.ofNat (List.length out)) - (1:Int)))) (dflt Zj)).2.2.2))))++[((Int.ofNat (Utf8.decode s pos).1),((Int.ofNat pos),((0:Int),(line,(col,false)))))]) (pos+(Utf8.decode s pos).2) (1:Int))) (.jmp (.l5 line ((List.set out (Int.toNat (IntKind.i64.wrap ((Int.ofNat (List.length out)) - (1:Int)))) ((List.getD out (Int.toNat (IntKind.i64.wrap ((Int.ofNat (List.length out)) - (1:Int)))) (dflt Zj)).1,((List.getD out (Int.toNat (IntKind.i64.wrap ((Int.ofNat (List.length out)) - (1:Int)))) (dflt Zj)).2.1,((IntKind.i64.wrap ((Int.ofNat pos) - (List.getD out (Int.toNat (IntKind.i64.wrap ((Int.ofNat (List.length out)) - (1:Int)))) (dflt Zj)).2.1)),(List.getD out (Int.toNat (IntKind.i64.wrap ((Int.ofNat (List.length out)) - (1:Int)))) (dflt Zj)).2.2.2))))++[((Int.ofNat (Utf8.decode s pos).1),((Int.ofNat pos),((0:Int),(line,(col,false)))))]) (pos+(Utf8.decode s pos).2) (IntKind.i64.wrap (col+(1:Int)))))) (.no)) (.no)) (.no)) (.br (Nat.ble (((List.length out)+1)*48) limit) (.br ((Int.ofNat (Utf8.decode s pos).1)==(10:Int)) (.jmp (.l5 (IntKind.i64.wrap (line+(1:Int))) (out++[((Int.ofNat (Utf8.decode s pos).1),((Int.ofNat pos),((0:Int),(line,(col,false)))))]) (pos+(Utf8.decode s pos).2) (1:Int))) (.jmp (.l5 line (out++[((Int.ofNat (Utf8.decode s pos).1),((Int.ofNat pos),((0:Int),(line,(col,false)))))]) (pos+(Utf8.decode s pos).2) (IntKind.i64.wrap (col+(1:Int)))))) (.no))) (.br (decide ((Int.ofNat (List.length out)) > (0:Int))) (.br ((decide ((0:Int)≤(IntKind.i64.wrap ((Int.ofNat (List.length out)) - (1:Int)))))&&(decide ((IntKind.i64.wrap ((Int.ofNat (List.length out)) - (1:Int))) < (Int.ofNat (List.length out))))) (.br ((decide ((0:Int)≤(IntKind.i64.wrap ((Int.ofNat (List.length out)) - (1:Int)))))&&(decide ((IntKind.i64.wrap ((Int.ofNat (List.length out)) - (1:Int))) < (Int.ofNat (List.length out))))) (.jmp (.l18 (List.set out (Int.toNat (IntKind.i64.wrap ((Int.ofNat (List.length out)) - (1:Int)))) ((List.getD out (Int.toNat (IntKind.i64.wrap ((Int.ofNat (List.length out)) - (1:Int)))) (dflt Zj)).1,((List.getD out (Int.toNat (IntKind.i64.wrap ((Int.ofNat (List.length out)) - (1:Int)))) (dflt Zj)).2.1,((IntKind.i64.wrap ((Int.ofNat (ByteArray.size s)) - (List.getD out (Int.toNat (IntKind.i64.wrap ((Int.ofNat (List.length out)) - (1:Int)))) (dflt Zj)).2.1)),(List.getD out (Int.toNat (IntKind.i64.wrap ((Int.ofNat (List.length out)) - (1:Int)))) (dflt Zj)).2.2.2)))) (0:Int))) (.no)) (.no)) (.jmp (.l18 out (0:Int)))) |.l18 out i=>.br (decide (i < (Int.ofNat (List.length out)))) (.br ((decide ((0:Int)≤i))&&(decide (i < (Int.ofNat (List.length out))))) (.br ((List.getD out (Int.toNat i) (dflt Zj)).1==(65533:Int)) (.br ((decide ((0:Int)≤i))&&(decide (i < (Int.ofNat (List.length out))))) (.br ((decide ((0:Int)≤i))&&(decide (i < (Int.ofNat (List.length out))))) (.jmp (.l18 (List.set out (Int.toNat i) ((List.getD out (Int.toNat i) (dflt Zj)).1,((List.getD out (Int.toNat i) (dflt Zj)).2.1,((List.getD out (Int.toNat i) (dflt Zj)).2.2.1,((List.getD out (Int.toNat i) (dflt Zj)).2.2.2.1,((List.getD out (Int.toNat i) (dflt Zj)).2.2.2.2.1,((List.getD out (Int.toNat i) (dflt Zj)).2.2.1==(1:Int)))))))) (IntKind.i64.wrap (i+(1:Int))))) (.no)) (.no)) (.br ((decide ((0:Int)≤i))&&(decide (i < (Int.ofNat (List.length out))))) (.jmp (.l18 (List.set out (Int.toNat i) ((List.getD out (Int.toNat i) (dflt Zj)).1,((List.getD out (Int.toNat i) (dflt Zj)).2.1,((List.getD out (Int.toNat i) (dflt Zj)).2.2.1,((List.getD out (Int.toNat i) (dflt Zj)).2.2.2.1,((List.getD out (Int.toNat i) (dflt Zj)).2.2.2.2.1,false)))))) (IntKind.i64.wrap (i+(1:Int))))) (.no))) (.no)) (.leaf out)
def ZqN (s:ByteArray):JT Zks (List (El Zj)):=.jmp (.l5 (1:Int) [] 0 (1:Int))
def Zne:List (El Zj)→AV:=fun (r:List (El Zj))=>.rw 126 Zj r
def ZfL (s:ByteArray):Zks→Nat×St |.l5 line out pos col=>(5,⟨mkTm 91 [(0,.d .str s),(3,.own 4 0 none),(4,.d (.int .i64) line),(5,.d (.int .i64) col),(10,.it 11 0)],[(4,0,.row 126 Zj out false),(11,0,.sit s pos)]⟩) |.l18 out i=>(18,⟨mkTm 91 [(3,.own 4 0 none),(8,.d (.int .i64) i)],[(4,0,.row 126 Zj out false)]⟩)
theorem ZIO (s:ByteArray) (L:Lt):entryA Go.Proofs.Tryz.prog (clOf ZtS) Zqa Go.Proofs.Tryz.f89 ZnX L (toForms Zgz (s,()))=(ZqN s).run (fun v=>some (Zne v,tps (toForms Zgz (s,())))) fun j=>L (ZfL s j).1 (ZfL s j).2:=by kernel_rfl
theorem ZHS (s:ByteArray):∀(L:Lt) (j:Zks),procOf (procsF Go.Proofs.Tryz.prog (clOf ZtS) Zqa Go.Proofs.Tryz.f89 ZnX (toForms Zgz (s,()))) (ZfL s j).1 L (ZfL s j).2=(Zb1 s j).run (fun v=>some (Zne v,tps (toForms Zgz (s,())))) fun j=>L (ZfL s j).1 (ZfL s j).2 | L,.l5 line out pos col=>by kernel_rfl | L,.l18 out i=>by kernel_rfl
end
end Go.Ev
end

section
open Go
namespace Go.Ev
def rawFrom (s:ByteArray):Nat→Nat→Int→Int→List (El Zj)
 | 0,_,_,_=>[]
 | n+1,pos,line,col=>
  if pos < s.size then
   spotAt s pos line col false :: rawFrom s n (pos+(Utf8.decode s pos).2) (Zag line col (Int.ofNat (Utf8.decode s pos).1)).1 (Zag line col (Int.ofNat (Utf8.decode s pos).1)).2
  else []
def tellBad (x:El Zj):El Zj:=(x.1,x.2.1,x.2.2.1,x.2.2.2.1,x.2.2.2.2.1,x.1==(65533:Int)&&x.2.2.1==(1:Int))
def noSize (x:El Zj):El Zj:=(x.1,x.2.1,0,x.2.2.2.1,x.2.2.2.2.1,x.2.2.2.2.2)
theorem ZJ1 (s:ByteArray):∀(n pos:Nat) (line col:Int),(rawFrom s n pos line col).map tellBad=spotsFrom s n pos line col
 | 0,_,_,_=>rfl
 | n+1,pos,line,col=>by
  unfold rawFrom spotsFrom
  split
  ·rw[List.map_cons,ZJ1 s n]
   congr 1
   unfold tellBad spotAt badAt
   have e1:(Int.ofNat (Utf8.decode s pos).1==(65533:Int))=decide ((Utf8.decode s pos).1=65533):=by rw[Bool.eq_iff_iff];simp <;> omega
   have e2:(Int.ofNat (Utf8.decode s pos).2==(1:Int))=decide ((Utf8.decode s pos).2=1):=by rw[Bool.eq_iff_iff];simp <;> omega
   simp only[e1,e2]
  ·rfl
def Z8 (s:ByteArray):List (El Zj):=spots s
def Znp (s:ByteArray):Bool:=smallText s
theorem ZL1 (s:ByteArray) (hk:Znp s=true):Goes (Zb1 s) (ZqN s) (Z8 s):=by
 have hs:s.size < 549755813888:=of_decide_eq_true hk
 have loop2:∀(rest pre:List (El Zj)),pre.length+rest.length≤s.size→(∀x∈rest,x.2.2.2.2.2=false)→Goes (Zb1 s) (.jmp (.l18 (pre++rest) (pre.length:Int))) (pre++rest.map tellBad):=by
  intro rest
  induction rest with
  | nil=>
   intro pre _ _
   rw[Zh]
   simp[Zb1,Ze,ZR]
  | cons x rest ih=>
   intro pre hl hx
   rw[Zh]
   have hk:pre.length < (pre++x :: rest).length:=by simp
   have hg:(pre++x :: rest).getD pre.length (dflt Zj)=x:=by simp[List.getD]
   have hset:∀y,(pre++x :: rest).set pre.length y=pre++y :: rest:=fun y=>by simp
   have hl':(pre++x :: rest).length≤s.size:=by simpa using hl
   simp only[Zb1,Ze,ZK hk,nng,Bool.and_self,if_true,Int.toNat_natCast,hg,hset,Zo (k:=pre.length) (by omega)]
   have hb:x.2.2.2.2.2=false:=hx x (by simp)
   have key:∀b,b=(x.1==(65533:Int)&&x.2.2.1==(1:Int))→Goes (Zb1 s) (.jmp (.l18 (pre++(x.1,x.2.1,x.2.2.1,x.2.2.2.1,x.2.2.2.2.1,b) :: rest) ((pre.length+1:Nat):Int))) (pre++(x :: rest).map tellBad):=by
    intro b e
    subst e
    have:=ih (pre++[tellBad x]) (by simp at hl ⊢;omega) (fun y hy=>hx y (by simp[hy]))
    simpa[tellBad] using this
   by_cases h:x.1=65533
   ·rw[if_pos (by simp[h])]
    exact key _ (by simp[h])
   ·rw[if_neg (by simp[h])]
    exact key _ (by simp[h])
 have raw_false:∀(n pos:Nat) (line col:Int),∀x∈rawFrom s n pos line col,x.2.2.2.2.2=false:=by
  intro n
  induction n with
  | zero=>intro pos line col x hx;simp[rawFrom] at hx
  | succ n ih=>
   intro pos line col x hx
   unfold rawFrom at hx
   split at hx
   ·rcases List.mem_cons.1 hx with rfl | hx
    ·rfl
    ·exact ih _ _ _ x hx
   ·simp at hx
 have loop1:∀(n pos:Nat) (line col:Int) (done:List (El Zj)) (out:List (El Zj)),s.size - pos < n→pos≤s.size→done.length≤pos→(∀x∈done,x.2.2.2.2.2=false)→
   ((done=[]∧out=[])∨∃ini x,done=ini++[x]∧out=ini++[noSize x]∧∃a m:Nat,x.2.1=(a:Int)∧x.2.2.1=(m:Int)∧a+m=pos)→
   Goes (Zb1 s) (.jmp (.l5 line out pos col)) ((done++rawFrom s n pos line col).map tellBad):=by
  intro n
  induction n with
  | zero=>intro pos line col done out h;omega
  | succ n ih=>
   intro pos line col done out hn hp hd hfalse hinv
   rw[Zh]
   simp only[Zb1,Ze]
   by_cases h:pos < s.size
   ·have hle:=ZR6 h
    have h1:=ZQw (s:=s) (pos:=pos)
    have hraw:rawFrom s (n+1) pos line col=spotAt s pos line col false :: rawFrom s n (pos+(Utf8.decode s pos).2) (Zag line col (Int.ofNat (Utf8.decode s pos).1)).1 (Zag line col (Int.ofNat (Utf8.decode s pos).1)).2:=by
     rw[rawFrom,if_pos h]
    have hnext:∀(l c:Int),l=(Zag line col (Int.ofNat (Utf8.decode s pos).1)).1→c=(Zag line col (Int.ofNat (Utf8.decode s pos).1)).2→
      Goes (Zb1 s) (.jmp (.l5 l (done++[(Int.ofNat (Utf8.decode s pos).1,Int.ofNat pos,0,line,col,false)]) (pos+(Utf8.decode s pos).2) c)) ((done++rawFrom s (n+1) pos line col).map tellBad):=by
     intro l c el ec
     subst el;subst ec
     have e:∀(r:List (El Zj)),done++spotAt s pos line col false :: r=(done++[spotAt s pos line col false])++r:=fun r=>List.append_cons ..
     rw[hraw,e]
     refine ih (pos+(Utf8.decode s pos).2) _ _ (done++[spotAt s pos line col false]) _ (by omega) (by omega) (by simp <;> omega) ?_ (.inr ⟨done,spotAt s pos line col false,rfl,rfl,pos,(Utf8.decode s pos).2,rfl,rfl,rfl⟩)
     intro x hx
     rcases List.mem_append.1 hx with hx | hx
     ·exact hfalse x hx
     ·simp at hx;subst hx;rfl
    have hfin:if (Int.ofNat (Utf8.decode s pos).1==(10:Int))=true then
       Goes (Zb1 s) (.jmp (.l5 (IntKind.i64.wrap (line+1)) (done++[(Int.ofNat (Utf8.decode s pos).1,Int.ofNat pos,0,line,col,false)]) (pos+(Utf8.decode s pos).2) 1)) ((done++rawFrom s (n+1) pos line col).map tellBad)
      else Goes (Zb1 s) (.jmp (.l5 line (done++[(Int.ofNat (Utf8.decode s pos).1,Int.ofNat pos,0,line,col,false)]) (pos+(Utf8.decode s pos).2) (IntKind.i64.wrap (col+1)))) ((done++rawFrom s (n+1) pos line col).map tellBad):=by
     split
     ·rename_i hr
      exact hnext _ _ (by simp only[Zag,hr,cond_true]) (by simp only[Zag,hr,cond_true])
     ·rename_i hr
      rw[Bool.not_eq_true] at hr
      exact hnext _ _ (by simp only[Zag,hr,cond_false]) (by simp only[Zag,hr,cond_false])
    rcases hinv with ⟨rfl,rfl⟩ | ⟨ini,x,rfl,rfl,a,m,ha,hm,ham⟩
    ·have hb:Nat.ble ((([]:List (El Zj)).length+1)*48) limit=true:=by decide
     simp only[h,decide_true,if_true,hb]
     rw[if_neg (by simp)]
     exact hfin
    ·have hlen:(ini++[noSize x]).length=ini.length+1:=by simp
     have hd2:ini.length+1≤pos:=by simpa using hd
     have hw:IntKind.i64.wrap (Int.ofNat (ini++[noSize x]).length - 1)=(ini.length:Int):=by rw[hlen,wrap_i64 (by simp <;> omega) (by simp <;> omega)];simp
     have hg:(ini++[noSize x]).getD ini.length (dflt Zj)=noSize x:=by simp[List.getD]
     have hset:∀y,(ini++[noSize x]).set ini.length y=ini++[y]:=fun y=>by simp
     have hat:IntKind.i64.wrap (Int.ofNat pos - (noSize x).2.1)=x.2.2.1:=by
      show IntKind.i64.wrap (Int.ofNat pos - x.2.1)=_
      rw[ha,hm,wrap_i64 (by simp <;> omega) (by simp <;> omega)]
      simp;omega
     have hy:((noSize x).1,(noSize x).2.1,x.2.2.1,(noSize x).2.2.2)=x:=rfl
     have hgt:decide (Int.ofNat (ini++[noSize x]).length > 0)=true:=by rw[hlen];simp <;> omega
     have hb:Nat.ble (((ini++[x]).length+1)*48) limit=true:=by
      apply Nat.ble_eq_true_of_le;unfold limit;simp <;> omega
     have hlt:ini.length < (ini++[noSize x]).length:=by simp
     simp only[h,decide_true,if_true,hgt,hw,ZK hlt,nng,Bool.and_self,Int.toNat_natCast,hg,hset,hat,hy,hb]
     exact hfin
   ·have hend:rawFrom s (n+1) pos line col=[]:=by rw[rawFrom,if_neg h]
    have hpos:pos=s.size:=by omega
    rw[hend,List.append_nil]
    simp only[h,decide_false]
    rw[if_neg (by simp)]
    rcases hinv with ⟨rfl,rfl⟩ | ⟨ini,x,rfl,rfl,a,m,ha,hm,ham⟩
    ·rw[if_neg (by simp)]
     exact loop2 [] [] (by simp) (by simp)
    ·have hlen:(ini++[noSize x]).length=ini.length+1:=by simp
     have hd2:ini.length+1≤pos:=by simpa using hd
     have hw:IntKind.i64.wrap (Int.ofNat (ini++[noSize x]).length - 1)=(ini.length:Int):=by rw[hlen,wrap_i64 (by simp <;> omega) (by simp <;> omega)];simp
     have hg:(ini++[noSize x]).getD ini.length (dflt Zj)=noSize x:=by simp[List.getD]
     have hset:∀y,(ini++[noSize x]).set ini.length y=ini++[y]:=fun y=>by simp
     have hat:IntKind.i64.wrap (Int.ofNat s.size - (noSize x).2.1)=x.2.2.1:=by
      show IntKind.i64.wrap (Int.ofNat s.size - x.2.1)=_
      rw[ha,hm,wrap_i64 (by simp <;> omega) (by simp <;> omega)]
      simp;omega
     have hy:((noSize x).1,(noSize x).2.1,x.2.2.1,(noSize x).2.2.2)=x:=rfl
     have hgt:decide (Int.ofNat (ini++[noSize x]).length > 0)=true:=by rw[hlen];simp <;> omega
     have hlt:ini.length < (ini++[noSize x]).length:=by simp
     simp only[if_true,hgt,hw,ZK hlt,nng,Bool.and_self,Int.toNat_natCast,hg,hset,hat,hy]
     exact loop2 (ini++[x]) [] (by simp <;> omega) hfalse
 unfold ZqN Z8 spots
 have:=loop1 (s.size+1) 0 1 1 [] [] (by omega) (by omega) (by simp) (by simp) (.inl ⟨rfl,rfl⟩)
 rw[List.nil_append,ZJ1] at this
 exact this
end Go.Ev
end

section
open Go Go.Ev
namespace Go.Ev
noncomputable section
noncomputable def ZAM:Run:=entG Zgz Zne (fun a=>Znp a.1) (fun a=>Z8 a.1)
theorem ZHa:EntOK Go.Proofs.Tryz.prog 89 ZAM:=ZH (tb:=Zqa) (c:=ZnX) ZG3 (by kernel_rfl) (by kernel_rfl) (by kernel_rfl) (fun a=>by kernel_rfl) fun ⟨s,_⟩ hk=>Zm (c:=ZnX) (K:=fun v=>(Zne v,tps (toForms Zgz (s,())))) (S:=ZfL s) (by kernel_rfl) (ZIO s) (ZHS s) (ZL1 s hk)
end
end Go.Ev
end

section
open Go Go.Ev
namespace Go.Ev
noncomputable section
def ZhV:Sig:=[]
noncomputable def Zww:Tbl:=[]
theorem ZJY:∀p∈Zww,EntOK Go.Proofs.Tryz.prog p.1 p.2:=Zt
noncomputable def Zrz:Code:=Go.Proofs.Tryz.f128.body.getD .skip
def Zuf:Tb:=[]
def ZCm:Empty→JT Empty (List ByteArray):=fun j=>nomatch j
def ZAQ:JT Empty (List ByteArray):=.leaf ([(bs [114,97,120]),(bs [114,98,120]),(bs [114,99,120]),(bs [114,100,120]),(bs [114,115,105]),(bs [114,100,105]),(bs [114,56]),(bs [114,57])])
def Zca:List ByteArray:=([(bs [114,97,120]),(bs [114,98,120]),(bs [114,99,120]),(bs [114,100,120]),(bs [114,115,105]),(bs [114,100,105]),(bs [114,56]),(bs [114,57])])
theorem ZNz:Goes (ZCm) (ZAQ) (Zca):=Goes.leaf
def Zqq:List ByteArray→AV:=fun (r:List ByteArray)=>.rw 9 .str r
def Zg7:Empty→Nat×St:=fun j=>nomatch j
theorem ZJX (L:Lt):entryA Go.Proofs.Tryz.prog (clOf Zww) Zuf Go.Proofs.Tryz.f128 Zrz L (toForms ZhV (()))=(ZAQ).run (fun v=>some (Zqq v,tps (toForms ZhV (())))) fun j=>L (Zg7 j).1 (Zg7 j).2:=by kernel_rfl
theorem ZJ6:∀(L:Lt) (j:Empty),procOf (procsF Go.Proofs.Tryz.prog (clOf Zww) Zuf Go.Proofs.Tryz.f128 Zrz (toForms ZhV (()))) (Zg7 j).1 L (Zg7 j).2=(ZCm j).run (fun v=>some (Zqq v,tps (toForms ZhV (())))) fun j=>L (Zg7 j).1 (Zg7 j).2:=fun L j=>nomatch j
noncomputable def ZDb:Run:=entT ZhV Zqq (fun a=>Zca)
theorem ZLP:EntOK Go.Proofs.Tryz.prog 128 ZDb:=Zav (tb:=Zuf) (c:=Zrz) ZJY (by kernel_rfl) (by kernel_rfl) (by kernel_rfl) (fun a=>by kernel_rfl) fun _=>Zm (c:=Zrz) (K:=fun v=>(Zqq v,tps (toForms ZhV (())))) (S:=Zg7) (by kernel_rfl) (ZJX) (ZJ6) (ZNz)
end
end Go.Ev
end

section
open Go Go.Ev
namespace Go.Ev
noncomputable section
def Zjb:Sig:=[]
noncomputable def Zzj:Tbl:=[]
theorem ZNZ:∀p∈Zzj,EntOK Go.Proofs.Tryz.prog p.1 p.2:=Zt
noncomputable def Zu9:Code:=Go.Proofs.Tryz.f129.body.getD .skip
def Zws:Tb:=[]
def ZFN:Empty→JT Empty (List ByteArray):=fun j=>nomatch j
def ZDH:JT Empty (List ByteArray):=.leaf ([(bs []),(bs [109,111,118]),(bs [97,100,100]),(bs [115,117,98]),(bs [97,110,100]),(bs [111,114]),(bs [120,111,114]),(bs [99,109,112]),(bs [120,99,104,103]),(bs [99,109,112,120,99,104,103]),(bs [106,109,112]),(bs []),(bs [109,102,101,110,99,101]),(bs [110,111,112]),(bs [104,108,116])])
def Zdv:List ByteArray:=([(bs []),(bs [109,111,118]),(bs [97,100,100]),(bs [115,117,98]),(bs [97,110,100]),(bs [111,114]),(bs [120,111,114]),(bs [99,109,112]),(bs [120,99,104,103]),(bs [99,109,112,120,99,104,103]),(bs [106,109,112]),(bs []),(bs [109,102,101,110,99,101]),(bs [110,111,112]),(bs [104,108,116])])
theorem ZO2:Goes (ZFN) (ZDH) (Zdv):=Goes.leaf
def ZuN:List ByteArray→AV:=fun (r:List ByteArray)=>.rw 9 .str r
def Zjf:Empty→Nat×St:=fun j=>nomatch j
theorem ZMz (L:Lt):entryA Go.Proofs.Tryz.prog (clOf Zzj) Zws Go.Proofs.Tryz.f129 Zu9 L (toForms Zjb (()))=(ZDH).run (fun v=>some (ZuN v,tps (toForms Zjb (())))) fun j=>L (Zjf j).1 (Zjf j).2:=by kernel_rfl
theorem ZNV:∀(L:Lt) (j:Empty),procOf (procsF Go.Proofs.Tryz.prog (clOf Zzj) Zws Go.Proofs.Tryz.f129 Zu9 (toForms Zjb (()))) (Zjf j).1 L (Zjf j).2=(ZFN j).run (fun v=>some (ZuN v,tps (toForms Zjb (())))) fun j=>L (Zjf j).1 (Zjf j).2:=fun L j=>nomatch j
noncomputable def ZFC:Run:=entT Zjb ZuN (fun a=>Zdv)
theorem ZNA:EntOK Go.Proofs.Tryz.prog 129 ZFC:=Zav (tb:=Zws) (c:=Zu9) ZNZ (by kernel_rfl) (by kernel_rfl) (by kernel_rfl) (fun a=>by kernel_rfl) fun _=>Zm (c:=Zu9) (K:=fun v=>(ZuN v,tps (toForms Zjb (())))) (S:=Zjf) (by kernel_rfl) (ZMz) (ZNV) (ZO2)
end
end Go.Ev
end

section
open Go Go.Ev
namespace Go.Ev
noncomputable section
def Zf5:Sig:=[]
noncomputable def Ztv:Tbl:=[]
theorem ZHP:∀p∈Ztv,EntOK Go.Proofs.Tryz.prog p.1 p.2:=Zt
noncomputable def ZnZ:Code:=Go.Proofs.Tryz.f130.body.getD .skip
def Zsh:Tb:=[]
def ZAm:Empty→JT Empty (List ByteArray):=fun j=>nomatch j
def ZxK:JT Empty (List ByteArray):=.leaf ([(bs []),(bs [106,101]),(bs [106,110,101]),(bs [106,108]),(bs [106,108,101]),(bs [106,103]),(bs [106,103,101]),(bs [106,98]),(bs [106,98,101]),(bs [106,97]),(bs [106,97,101])])
def ZcR:List ByteArray:=([(bs []),(bs [106,101]),(bs [106,110,101]),(bs [106,108]),(bs [106,108,101]),(bs [106,103]),(bs [106,103,101]),(bs [106,98]),(bs [106,98,101]),(bs [106,97]),(bs [106,97,101])])
theorem ZKi:Goes (ZAm) (ZxK) (ZcR):=Goes.leaf
def Zol:List ByteArray→AV:=fun (r:List ByteArray)=>.rw 9 .str r
def ZfH:Empty→Nat×St:=fun j=>nomatch j
theorem ZHs (L:Lt):entryA Go.Proofs.Tryz.prog (clOf Ztv) Zsh Go.Proofs.Tryz.f130 ZnZ L (toForms Zf5 (()))=(ZxK).run (fun v=>some (Zol v,tps (toForms Zf5 (())))) fun j=>L (ZfH j).1 (ZfH j).2:=by kernel_rfl
theorem ZHT:∀(L:Lt) (j:Empty),procOf (procsF Go.Proofs.Tryz.prog (clOf Ztv) Zsh Go.Proofs.Tryz.f130 ZnZ (toForms Zf5 (()))) (ZfH j).1 L (ZfH j).2=(ZAm j).run (fun v=>some (Zol v,tps (toForms Zf5 (())))) fun j=>L (ZfH j).1 (ZfH j).2:=fun L j=>nomatch j
noncomputable def ZAz:Run:=entT Zf5 Zol (fun a=>ZcR)
theorem ZGH:EntOK Go.Proofs.Tryz.prog 130 ZAz:=Zav (tb:=Zsh) (c:=ZnZ) ZHP (by kernel_rfl) (by kernel_rfl) (by kernel_rfl) (fun a=>by kernel_rfl) fun _=>Zm (c:=ZnZ) (K:=fun v=>(Zol v,tps (toForms Zf5 (())))) (S:=ZfH) (by kernel_rfl) (ZHs) (ZHT) (ZKi)
end
end Go.Ev
end

section
open Go Go.Ev
namespace Go.Ev
noncomputable section
def ZhP:Sig:=[(false,.str)]
noncomputable def Zwx:Tbl:=[(128,ZDb),(94,Znz),(129,ZFC),(130,ZAz)]
theorem ZL8:∀p∈Zwx,EntOK Go.Proofs.Tryz.prog p.1 p.2:=Zg ZLP (Zg Zrp (Zg ZNA (Zg ZGH (Zt))))
noncomputable def Zqm:Code:=Go.Proofs.Tryz.f90.body.getD .skip
def Zui:Tb:=[]
def ZwZ (s:ByteArray):Empty→JT Empty (Bool):=fun j=>nomatch j
def ZsQ (s:ByteArray):JT Empty (Bool):=.br (! (eqB s (bs []))) (.br (eqB s (bs [115,121,109])) (.leaf true) (.br (eqB s (bs [116,104,114,101,97,100])) (.leaf true) (.br (eqB s (bs [108,111,99,107])) (.leaf true) (.br (Zam Zca s) (.br (decide ((Z3 Zca s)≥(0:Int))) (.leaf true) (.br (Zam Zdv s) (.br (decide ((Z3 Zdv s) > (0:Int))) (.leaf true) (.br (Zam ZcR s) (.leaf (decide ((Z3 ZcR s) > (0:Int)))) (.no))) (.no))) (.no))))) (.leaf false)
def Zw7 (s:ByteArray):Bool:=bif (! (eqB s (bs []))) then bif (eqB s (bs [115,121,109])) then true else bif (eqB s (bs [116,104,114,101,97,100])) then true else bif (eqB s (bs [108,111,99,107])) then true else bif (Zam Zca s) then bif (decide ((Z3 Zca s)≥(0:Int))) then true else bif (Zam Zdv s) then bif (decide ((Z3 Zdv s) > (0:Int))) then true else bif (Zam ZcR s) then (decide ((Z3 ZcR s) > (0:Int))) else false else false else false else false
def ZtZ (s:ByteArray):Bool:=bif (! (eqB s (bs []))) then bif (eqB s (bs [115,121,109])) then true else bif (eqB s (bs [116,104,114,101,97,100])) then true else bif (eqB s (bs [108,111,99,107])) then true else bif (Zam Zca s) then bif (decide ((Z3 Zca s)≥(0:Int))) then true else bif (Zam Zdv s) then bif (decide ((Z3 Zdv s) > (0:Int))) then true else bif (Zam ZcR s) then true else false else false else false else true
theorem ZJF (s:ByteArray) (hk:ZtZ s=true):Goes (ZwZ s) (ZsQ s) (Zw7 s):=Goes.brk hk (fun hk=>Goes.brk hk (fun hk=>Goes.leaf) (fun hk=>Goes.brk hk (fun hk=>Goes.leaf) (fun hk=>Goes.brk hk (fun hk=>Goes.leaf) (fun hk=>Goes.brk hk (fun hk=>Goes.brk hk (fun hk=>Goes.leaf) (fun hk=>Goes.brk hk (fun hk=>Goes.brk hk (fun hk=>Goes.leaf) (fun hk=>Goes.brk hk (fun hk=>Goes.leaf) (fun hk=>Goes.nok hk))) (fun hk=>Goes.nok hk))) (fun hk=>Goes.nok hk))))) (fun hk=>Goes.leaf)
def ZrU:Bool→AV:=fun (r:Bool)=>.d .bool r
def ZhG (s:ByteArray):Empty→Nat×St:=fun j=>nomatch j
theorem ZKN (s:ByteArray) (L:Lt):entryA Go.Proofs.Tryz.prog (clOf Zwx) Zui Go.Proofs.Tryz.f90 Zqm L (toForms ZhP (s,()))=(ZsQ s).run (fun v=>some (ZrU v,tps (toForms ZhP (s,())))) fun j=>L (ZhG s j).1 (ZhG s j).2:=by kernel_rfl
theorem ZKp (s:ByteArray):∀(L:Lt) (j:Empty),procOf (procsF Go.Proofs.Tryz.prog (clOf Zwx) Zui Go.Proofs.Tryz.f90 Zqm (toForms ZhP (s,()))) (ZhG s j).1 L (ZhG s j).2=(ZwZ s j).run (fun v=>some (ZrU v,tps (toForms ZhP (s,())))) fun j=>L (ZhG s j).1 (ZhG s j).2:=fun L j=>nomatch j
end
end Go.Ev
end

section
open Go
namespace Go.Ev
def Zjr (s:ByteArray):Bool:=ZcP s
theorem ZMu (s:ByteArray):Goes (ZwZ s) (ZsQ s) (Zjr s):=by
 have hk:∀l:List ByteArray,l.length < 100→Zam l s=true:=fun l h=>decide_eq_true (by omega)
 have h1:Zam Zca s=true:=hk _ (by decide)
 have h2:Zam Zdv s=true:=hk _ (by decide)
 have h3:Zam ZcR s=true:=hk _ (by decide)
 have hku:ZtZ s=true:=by
  unfold ZtZ
  simp only[h1,h2,h3,cond_true]
  cases eqB s (bs []) <;> cases eqB s (bs [115,121,109]) <;> cases eqB s (bs [116,104,114,101,97,100]) <;> cases eqB s (bs [108,111,99,107]) <;> cases decide (Z3 Zca s≥0) <;> cases decide (Z3 Zdv s > 0) <;> rfl
 have hv:Zjr s=Zw7 s:=by
  unfold Zjr Zw7 ZcP
  simp only[h1,h2,h3,cond_true,ZPQ]
  have hr:decide (Z3 Zca s≥0)=(findFrom s ZaH 0).isSome:=by
   unfold Z3
   rw[show Zca=ZaH from rfl]
   cases findFrom s ZaH 0 <;> simp
  have hR:(Zg6 s).2=(findFrom s ZaH 0).isSome:=by
   unfold Zg6
   cases findFrom s ZaH 0 <;> rfl
  rw[hr,hR]
  by_cases h0:s=bs []
  ·subst h0
   decide
  have hidx:∀l:List ByteArray,decide (Z3 (bs [] :: l) s > 0)=(findFrom s l 0).isSome:=by
   intro l
   unfold Z3
   rw[show findFrom s (bs [] :: l) 0=findFrom s l (0+1) by rw[findFrom,if_neg (fun e=>h0 e.symm)],Zvu (k:=0) (j:=0+1)]
   cases h:findFrom s l (0+1) with
   | none=>simp
   | some n=>have:=Zyz h;simp;omega
  have ho:=hidx Za0
  have hj:=hidx Zao
  rw[show Zdv=bs [] :: Za0 from rfl,ho,show ZcR=bs [] :: Zao from rfl,hj]
  have hO:(Zjv s).2.2=((findFrom s Za0 0).isSome || (findFrom s Zao 0).isSome):=by
   unfold Zjv
   rw[if_neg h0]
   cases findFrom s Za0 0 with
   | some k=>rfl
   | none=>cases findFrom s Zao 0 <;> rfl
  rw[hO]
  simp only[h0,decide_false,Bool.not_false,cond_true]
  cases (findFrom s Za0 0).isSome <;> cases (findFrom s Zao 0).isSome <;> rfl
 rw[hv]
 exact ZJF s hku
end Go.Ev
end

section
open Go Go.Ev
namespace Go.Ev
noncomputable section
noncomputable def ZCh:Run:=entT ZhP ZrU (fun a=>Zjr a.1)
theorem ZJQ:EntOK Go.Proofs.Tryz.prog 90 ZCh:=Zav (tb:=Zui) (c:=Zqm) ZL8 (by kernel_rfl) (by kernel_rfl) (by kernel_rfl) (fun a=>by kernel_rfl) fun ⟨s,_⟩=>Zm (c:=Zqm) (K:=fun v=>(ZrU v,tps (toForms ZhP (s,())))) (S:=ZhG s) (by kernel_rfl) (ZKN s) (ZKp s) (ZMu s)
end
end Go.Ev
end

section
open Go Go.Ev
namespace Go.Ev
noncomputable section
def Zez:Sig:=[(false,(.int .i32))]
noncomputable def Zqu:Tbl:=[]
theorem ZEZ:∀p∈Zqu,EntOK Go.Proofs.Tryz.prog p.1 p.2:=Zt
noncomputable def ZlK:Code:=Go.Proofs.Tryz.f91.body.getD .skip
def Zpn:Tb:=[]
def ZyS (r:Int):Empty→JT Empty (Bool):=fun j=>nomatch j
def Zvr (r:Int):JT Empty (Bool):=.br (decide (r≥(97:Int))) (.br (decide (r≤(122:Int))) (.leaf true) (.br (decide (r≥(65:Int))) (.br (decide (r≤(90:Int))) (.leaf true) (.br (r==(95:Int)) (.leaf true) (.br (decide (r≥(161:Int))) (.leaf (decide (r≤(1114111:Int)))) (.leaf false)))) (.br (r==(95:Int)) (.leaf true) (.br (decide (r≥(161:Int))) (.leaf (decide (r≤(1114111:Int)))) (.leaf false))))) (.br (decide (r≥(65:Int))) (.br (decide (r≤(90:Int))) (.leaf true) (.br (r==(95:Int)) (.leaf true) (.br (decide (r≥(161:Int))) (.leaf (decide (r≤(1114111:Int)))) (.leaf false)))) (.br (r==(95:Int)) (.leaf true) (.br (decide (r≥(161:Int))) (.leaf (decide (r≤(1114111:Int)))) (.leaf false))))
def ZlE (r:Int):Bool:=bif (decide (r≥(97:Int))) then bif (decide (r≤(122:Int))) then true else bif (decide (r≥(65:Int))) then bif (decide (r≤(90:Int))) then true else bif (r==(95:Int)) then true else bif (decide (r≥(161:Int))) then (decide (r≤(1114111:Int))) else false else bif (r==(95:Int)) then true else bif (decide (r≥(161:Int))) then (decide (r≤(1114111:Int))) else false else bif (decide (r≥(65:Int))) then bif (decide (r≤(90:Int))) then true else bif (r==(95:Int)) then true else bif (decide (r≥(161:Int))) then (decide (r≤(1114111:Int))) else false else bif (r==(95:Int)) then true else bif (decide (r≥(161:Int))) then (decide (r≤(1114111:Int))) else false
theorem ZF7 (r:Int):Goes (ZyS r) (Zvr r) (ZlE r):=Goes.br (Goes.br (Goes.leaf) (Goes.br (Goes.br (Goes.leaf) (Goes.br (Goes.leaf) (Goes.br (Goes.leaf) (Goes.leaf)))) (Goes.br (Goes.leaf) (Goes.br (Goes.leaf) (Goes.leaf))))) (Goes.br (Goes.br (Goes.leaf) (Goes.br (Goes.leaf) (Goes.br (Goes.leaf) (Goes.leaf)))) (Goes.br (Goes.leaf) (Goes.br (Goes.leaf) (Goes.leaf))))
def Zlm:Bool→AV:=fun (r:Bool)=>.d .bool r
def Zd7 (r:Int):Empty→Nat×St:=fun j=>nomatch j
theorem ZDV (r:Int) (L:Lt):entryA Go.Proofs.Tryz.prog (clOf Zqu) Zpn Go.Proofs.Tryz.f91 ZlK L (toForms Zez (r,()))=(Zvr r).run (fun v=>some (Zlm v,tps (toForms Zez (r,())))) fun j=>L (Zd7 r j).1 (Zd7 r j).2:=by kernel_rfl
theorem ZEE (r:Int):∀(L:Lt) (j:Empty),procOf (procsF Go.Proofs.Tryz.prog (clOf Zqu) Zpn Go.Proofs.Tryz.f91 ZlK (toForms Zez (r,()))) (Zd7 r j).1 L (Zd7 r j).2=(ZyS r j).run (fun v=>some (Zlm v,tps (toForms Zez (r,())))) fun j=>L (Zd7 r j).1 (Zd7 r j).2:=fun L j=>nomatch j
noncomputable def ZxA:Run:=entT Zez Zlm (fun a=>ZlE a.1)
theorem ZD8:EntOK Go.Proofs.Tryz.prog 91 ZxA:=Zav (tb:=Zpn) (c:=ZlK) ZEZ (by kernel_rfl) (by kernel_rfl) (by kernel_rfl) (fun a=>by kernel_rfl) fun ⟨r,_⟩=>Zm (c:=ZlK) (K:=fun v=>(Zlm v,tps (toForms Zez (r,())))) (S:=Zd7 r) (by kernel_rfl) (ZDV r) (ZEE r) (ZF7 r)
end
end Go.Ev
end

section
open Go Go.Ev
namespace Go.Ev
noncomputable section
def Zgh:Sig:=[(false,(.int .i32))]
noncomputable def Zuz:Tbl:=[]
theorem ZHD:∀p∈Zuz,EntOK Go.Proofs.Tryz.prog p.1 p.2:=Zt
noncomputable def Zov:Code:=Go.Proofs.Tryz.f92.body.getD .skip
def ZqJ:Tb:=[]
def ZAi (r:Int):Empty→JT Empty (Bool):=fun j=>nomatch j
def Zyp (r:Int):JT Empty (Bool):=.br (decide (r≥(48:Int))) (.leaf (decide (r≤(57:Int)))) (.leaf false)
def Zou (r:Int):Bool:=bif (decide (r≥(48:Int))) then (decide (r≤(57:Int))) else false
theorem ZKS (r:Int):Goes (ZAi r) (Zyp r) (Zou r):=Goes.br (Goes.leaf) (Goes.leaf)
def Zni:Bool→AV:=fun (r:Bool)=>.d .bool r
def Zfi (r:Int):Empty→Nat×St:=fun j=>nomatch j
theorem ZG8 (r:Int) (L:Lt):entryA Go.Proofs.Tryz.prog (clOf Zuz) ZqJ Go.Proofs.Tryz.f92 Zov L (toForms Zgh (r,()))=(Zyp r).run (fun v=>some (Zni v,tps (toForms Zgh (r,())))) fun j=>L (Zfi r j).1 (Zfi r j).2:=by kernel_rfl
theorem ZGh (r:Int):∀(L:Lt) (j:Empty),procOf (procsF Go.Proofs.Tryz.prog (clOf Zuz) ZqJ Go.Proofs.Tryz.f92 Zov (toForms Zgh (r,()))) (Zfi r j).1 L (Zfi r j).2=(ZAi r j).run (fun v=>some (Zni v,tps (toForms Zgh (r,())))) fun j=>L (Zfi r j).1 (Zfi r j).2:=fun L j=>nomatch j
noncomputable def ZAx:Run:=entT Zgh Zni (fun a=>Zou a.1)
theorem ZIS:EntOK Go.Proofs.Tryz.prog 92 ZAx:=Zav (tb:=ZqJ) (c:=Zov) ZHD (by kernel_rfl) (by kernel_rfl) (by kernel_rfl) (fun a=>by kernel_rfl) fun ⟨r,_⟩=>Zm (c:=Zov) (K:=fun v=>(Zni v,tps (toForms Zgh (r,())))) (S:=Zfi r) (by kernel_rfl) (ZG8 r) (ZGh r) (ZKS r)
end
end Go.Ev
end

section
open Go Go.Ev
namespace Go.Ev
noncomputable section
def Zgg:Sig:=[(false,.str)]
noncomputable def Zug:Tbl:=[(89,ZAM),(90,ZCh),(91,ZxA),(92,ZAx)]
theorem ZHO:∀p∈Zug,EntOK Go.Proofs.Tryz.prog p.1 p.2:=Zg ZHa (Zg ZJQ (Zg ZD8 (Zg ZIS (Zt))))
noncomputable def Znx:Code:=Go.Proofs.Tryz.f60.body.getD .skip
def ZqC:Tb:=[(7,⟨[3,4],[]⟩)]
inductive ZkE where | l7 (i:Int)
def Zkw (s:ByteArray):ZkE→JT ZkE (Bool) |.l7 i=>.br (decide (i < (Int.ofNat (List.length (Z8 s))))) (.br ((decide ((0:Int)≤i))&&(decide (i < (Int.ofNat (List.length (Z8 s)))))) (.br (List.getD (Z8 s) (Int.toNat i) (dflt Zj)).2.2.2.2.2 (.leaf false) (.br ((decide ((0:Int)≤i))&&(decide (i < (Int.ofNat (List.length (Z8 s)))))) (.br (! (ZlE (List.getD (Z8 s) (Int.toNat i) (dflt Zj)).1)) (.br (i==(0:Int)) (.leaf false) (.br ((decide ((0:Int)≤i))&&(decide (i < (Int.ofNat (List.length (Z8 s)))))) (.br (! (Zou (List.getD (Z8 s) (Int.toNat i) (dflt Zj)).1)) (.leaf false) (.jmp (.l7 (IntKind.i64.wrap (i+(1:Int)))))) (.no))) (.jmp (.l7 (IntKind.i64.wrap (i+(1:Int)))))) (.no))) (.no)) (.leaf true)
def Zqc (s:ByteArray):JT ZkE (Bool):=.br (Znp s) (.br (decide ((Int.ofNat (List.length (Z8 s))) < (1:Int))) (.leaf false) (.br (decide ((Int.ofNat (List.length (Z8 s))) > (16:Int))) (.leaf false) (.br (Zjr s) (.leaf false) (.jmp (.l7 (0:Int)))))) (.no)
def ZnI:Bool→AV:=fun (r:Bool)=>.d .bool r
def Ze5 (s:ByteArray):ZkE→Nat×St |.l7 i=>(7,⟨mkTm 52 [(3,.own 4 0 none),(4,.d (.int .i64) i)],[(4,0,.row 126 Zj (Z8 s) false)]⟩)
theorem ZHI (s:ByteArray) (L:Lt):entryA Go.Proofs.Tryz.prog (clOf Zug) ZqC Go.Proofs.Tryz.f60 Znx L (toForms Zgg (s,()))=(Zqc s).run (fun v=>some (ZnI v,tps (toForms Zgg (s,())))) fun j=>L (Ze5 s j).1 (Ze5 s j).2:=by kernel_rfl
theorem ZHq (s:ByteArray):∀(L:Lt) (j:ZkE),procOf (procsF Go.Proofs.Tryz.prog (clOf Zug) ZqC Go.Proofs.Tryz.f60 Znx (toForms Zgg (s,()))) (Ze5 s j).1 L (Ze5 s j).2=(Zkw s j).run (fun v=>some (ZnI v,tps (toForms Zgg (s,())))) fun j=>L (Ze5 s j).1 (Ze5 s j).2 | L,.l7 i=>by kernel_rfl
end
end Go.Ev
end

section
open Go
namespace Go.Ev
def ZdE (s:ByteArray):Bool:=nameRight s
def Zcg (s:ByteArray):Bool:=smallText s
theorem ZJM (s:ByteArray) (hk:Zcg s=true):Goes (Zkw s) (Zqc s) (ZdE s):=by
 have hs:s.size < 549755813888:=of_decide_eq_true hk
 have hl:(Z8 s).length≤s.size:=ZzX s
 have loop:∀k,k≤(Z8 s).length→Goes (Zkw s) (.jmp (.l7 (k:Int))) (spotsOK k ((Z8 s).drop k)):=by
  refine down ?_ fun k hk ih=>?_
  ·rw[Zh]
   simp[Zkw,Ze,ZR,spotsOK]
  ·rw[Zh]
   dsimp only[Zkw]
   simp only[Ze,ZR,ZK hk,nng,Bool.and_self,if_true,Int.toNat_natCast,ZG hk,Zo (k:=k) (by omega)]
   rw[ZM hk,spotsOK]
   generalize (Z8 s)[k]=x at*
   unfold spotOK
   rw[show ZlE=ZcX from rfl,show Zou=Zd0 from rfl]
   cases x.2.2.2.2.2
   ·cases ZcX x.1
    ·by_cases h0:k=0
     ·subst h0;simp
     ·have e1:((k:Int)==0)=false:=by rw[Bool.eq_false_iff];simp;omega
      have e2:(k==0)=false:=by rw[Bool.eq_false_iff];simpa using h0
      cases Zd0 x.1
      ·simp[e1,e2]
      ·simpa[e1,e2] using ih
    ·simpa using ih
   ·simp
 have hv:ZdE s=(spotsOK 0 (Z8 s)&&(decide (1≤(Z8 s).length)&&(decide ((Z8 s).length≤16)&& !ZcP s))):=rfl
 rw[hv]
 unfold Zqc
 simp only[Ze,show Znp s=true from hk,if_true,Zjr,ZR]
 by_cases h1:1≤(Z8 s).length
 ·by_cases h2:(Z8 s).length≤16
  ·cases ZcP s
   ·rw[if_neg (by simp <;> omega),if_neg (by simp <;> omega)]
    simpa[h1,h2] using loop 0 (Nat.zero_le _)
   ·rw[if_neg (by simp <;> omega),if_neg (by simp <;> omega)]
    simp
  ·rw[if_neg (by simp <;> omega),if_pos (by simp <;> omega)]
   simp[h2]
 ·rw[if_pos (by simp <;> omega)]
  simp[h1]
end Go.Ev
end

section
open Go Go.Ev
namespace Go.Ev
noncomputable section
noncomputable def Znq:Run:=entG Zgg ZnI (fun a=>Zcg a.1) (fun a=>ZdE a.1)
theorem ZpU:EntOK Go.Proofs.Tryz.prog 60 Znq:=ZH (tb:=ZqC) (c:=Znx) ZHO (by kernel_rfl) (by kernel_rfl) (by kernel_rfl) (fun a=>by kernel_rfl) fun ⟨s,_⟩ hk=>Zm (c:=Znx) (K:=fun v=>(ZnI v,tps (toForms Zgg (s,())))) (S:=Ze5 s) (by kernel_rfl) (ZHI s) (ZHq s) (ZJM s hk)
end
end Go.Ev
end

section
open Go Go.Ev
namespace Go.Ev
noncomputable section
def Zf3:Sig:=[(true,(.sl Za))]
noncomputable def Zur:Tbl:=[]
theorem ZGM:∀p∈Zur,EntOK Go.Proofs.Tryz.prog p.1 p.2:=Zt
noncomputable def Zn1:Code:=Go.Proofs.Tryz.f93.body.getD .skip
def Zrf:Tb:=[(4,⟨[1,3,4],[]⟩)]
inductive Zkr where | l4 (n:Int) (i:Int)
def Zky (t:List (El Za)):Zkr→JT Zkr (Int) |.l4 n i=>.br (decide (i < (Int.ofNat (List.length t)))) (.br ((decide ((0:Int)≤i))&&(decide (i < (Int.ofNat (List.length t))))) (.br ((List.getD t (Int.toNat i) (dflt Za)).1 !=(12:Int)) (.jmp (.l4 (IntKind.i64.wrap (n+(1:Int))) (IntKind.i64.wrap (i+(1:Int))))) (.jmp (.l4 n (IntKind.i64.wrap (i+(1:Int)))))) (.no)) (.leaf n)
def Zrb (t:List (El Za)):JT Zkr (Int):=.jmp (.l4 (0:Int) (0:Int))
def Zox:Int→AV:=fun (r:Int)=>.d (.int .i64) r
def Zfk (t:List (El Za)):Zkr→Nat×St |.l4 n i=>(4,⟨mkTm 22 [(1,.pt 2 0 0),(3,.d (.int .i64) n),(4,.d (.int .i64) i)],[(2,0,.box 42 [.d (.sl Za) t] none)]⟩)
theorem ZIe (t:List (El Za)) (L:Lt):entryA Go.Proofs.Tryz.prog (clOf Zur) Zrf Go.Proofs.Tryz.f93 Zn1 L (toForms Zf3 (t,()))=(Zrb t).run (fun v=>some (Zox v,tps (toForms Zf3 (t,())))) fun j=>L (Zfk t j).1 (Zfk t j).2:=by kernel_rfl
theorem ZHe (t:List (El Za)):∀(L:Lt) (j:Zkr),procOf (procsF Go.Proofs.Tryz.prog (clOf Zur) Zrf Go.Proofs.Tryz.f93 Zn1 (toForms Zf3 (t,()))) (Zfk t j).1 L (Zfk t j).2=(Zky t j).run (fun v=>some (Zox v,tps (toForms Zf3 (t,())))) fun j=>L (Zfk t j).1 (Zfk t j).2 | L,.l4 n i=>by kernel_rfl
end
end Go.Ev
end

section
open Go
namespace Go.Ev
def Zka (t:List (El Za)):Int:=(countM t:Int)
def Zor (t:List (El Za)):Bool:=decide (t.length < 1099511627776)
theorem ZMj (t:List (El Za)) (hk:Zor t=true):Goes (Zky t) (Zrb t) (Zka t):=by
 have hn:t.length < 1099511627776:=of_decide_eq_true hk
 have loop:∀k,k≤t.length→∀n:Nat,n≤k→Goes (Zky t) (.jmp (.l4 (n:Int) (k:Int))) ((n+countM (t.drop k):Nat):Int):=by
  refine down ?_ fun k hk ih=>?_
  ·intro n hnk
   rw[Zh]
   simp only[Zky,Ze,Zw (Nat.lt_irrefl _),ZR,List.drop_length]
   simp[countM]
  ·intro n hnk
   rw[Zh]
   simp only[Zky,Ze,ZK hk,nng,Bool.and_self,if_true,Int.toNat_natCast,ZG hk,Zo (k:=k) (by omega),Zo (k:=n) (by omega)]
   rw[ZM hk]
   unfold countM
   rw[List.filter_cons]
   split
   ·rename_i h
    have:=ih (n+1) (by omega)
    unfold countM at this
    rw[List.length_cons,show n+((List.filter (fun i=>i.1 !=(12:Int)) (List.drop (k+1) t)).length+1)=n+1+(List.filter (fun i=>i.1 !=(12:Int)) (List.drop (k+1) t)).length by omega]
    exact this
   ·exact ih n (by omega)
 have:=loop 0 (Nat.zero_le _) 0 (Nat.le_refl _)
 unfold Zrb Zka
 simpa using this
end Go.Ev
end

section
open Go Go.Ev
namespace Go.Ev
noncomputable section
noncomputable def ZAE:Run:=entG Zf3 Zox (fun a=>Zor a.1) (fun a=>Zka a.1)
theorem ZGK:EntOK Go.Proofs.Tryz.prog 93 ZAE:=ZH (tb:=Zrf) (c:=Zn1) ZGM (by kernel_rfl) (by kernel_rfl) (by kernel_rfl) (fun a=>by kernel_rfl) fun ⟨t,_⟩ hk=>Zm (c:=Zn1) (K:=fun v=>(Zox v,tps (toForms Zf3 (t,())))) (S:=Zfk t) (by kernel_rfl) (ZIe t) (ZHe t) (ZMj t hk)
end
end Go.Ev
end

section
open Go Go.Ev
namespace Go.Ev
noncomputable section
def ZcN:Sig:=[(true,Za)]
noncomputable def Zmp:Tbl:=[(131,ZFE),(97,Znr),(60,Znq)]
theorem ZA3:∀p∈Zmp,EntOK Go.Proofs.Tryz.prog p.1 p.2:=Zg ZMR (Zg ZqE (Zg ZpU (Zt)))
noncomputable def Ziy:Code:=Go.Proofs.Tryz.f95.body.getD .skip
def ZkF:Tb:=[(2,⟨[1,26,34,37,44,47],[]⟩),(5,⟨[1,49],[]⟩)]
inductive ZfR where | l2 (h:Bool) | l5 (h:Bool)
def Zfo (i:El Za):ZfR→JT ZfR (Int) |.l2 h=>.br h (.leaf (4:Int)) (.br (i.1==(11:Int)) (.br (decide (i.2.2.1 < (1:Int))) (.jmp (.l5 true)) (.br (decide (i.2.2.1 > (10:Int))) (.jmp (.l5 true)) (.br (i.1 !=(11:Int)) (.jmp (.l5 (i.2.2.1 !=(0:Int)))) (.jmp (.l5 false))))) (.br (i.1 !=(11:Int)) (.jmp (.l5 (i.2.2.1 !=(0:Int)))) (.jmp (.l5 false)))) |.l5 h=>.br h (.leaf (4:Int)) (.br (ZaF i.1) (.br (Zcg i.2.2.2.2.2.1) (.br (! (ZdE i.2.2.2.2.2.1)) (.leaf (3:Int)) (.leaf (0:Int))) (.no)) (.leaf (0:Int)))
def ZkO (i:El Za):JT ZfR (Int):=.br (decide (i.1 < (1:Int))) (.jmp (.l2 true)) (.br (decide (i.1 > (14:Int))) (.jmp (.l2 true)) (.br (! (Zak i)) (.jmp (.l2 true)) (.br (! (ZaF i.1)) (.jmp (.l2 (! (eqB i.2.2.2.2.2.1 (bs []))))) (.jmp (.l2 false)))))
def Za7 (i:El Za) (h:Bool):Int:=bif h then (4:Int) else bif (ZaF i.1) then bif (Zcg i.2.2.2.2.2.1) then bif (! (ZdE i.2.2.2.2.2.1)) then (3:Int) else (0:Int) else (0:Int) else (0:Int)
def Za2 (i:El Za) (h:Bool):Bool:=bif h then true else bif (ZaF i.1) then bif (Zcg i.2.2.2.2.2.1) then bif (! (ZdE i.2.2.2.2.2.1)) then true else true else false else true
theorem Zb2 (i:El Za) (h:Bool) (hk:Za2 i h=true):Goes (Zfo i) (.jmp (.l5 h)) (Za7 i h):=Goes.jmp (Goes.brk hk (fun hk=>Goes.leaf) (fun hk=>Goes.brk hk (fun hk=>Goes.brk hk (fun hk=>Goes.brk hk (fun hk=>Goes.leaf) (fun hk=>Goes.leaf)) (fun hk=>Goes.nok hk)) (fun hk=>Goes.leaf)))
def Zbv (i:El Za) (h:Bool):Int:=bif h then (4:Int) else bif (i.1==(11:Int)) then bif (decide (i.2.2.1 < (1:Int))) then Za7 i true else bif (decide (i.2.2.1 > (10:Int))) then Za7 i true else bif (i.1 !=(11:Int)) then Za7 i (i.2.2.1 !=(0:Int)) else Za7 i false else bif (i.1 !=(11:Int)) then Za7 i (i.2.2.1 !=(0:Int)) else Za7 i false
def Zbr (i:El Za) (h:Bool):Bool:=bif h then true else bif (i.1==(11:Int)) then bif (decide (i.2.2.1 < (1:Int))) then Za2 i true else bif (decide (i.2.2.1 > (10:Int))) then Za2 i true else bif (i.1 !=(11:Int)) then Za2 i (i.2.2.1 !=(0:Int)) else Za2 i false else bif (i.1 !=(11:Int)) then Za2 i (i.2.2.1 !=(0:Int)) else Za2 i false
theorem ZcV (i:El Za) (h:Bool) (hk:Zbr i h=true):Goes (Zfo i) (.jmp (.l2 h)) (Zbv i h):=Goes.jmp (Goes.brk hk (fun hk=>Goes.leaf) (fun hk=>Goes.brk hk (fun hk=>Goes.brk hk (fun hk=>Zb2 i true hk) (fun hk=>Goes.brk hk (fun hk=>Zb2 i true hk) (fun hk=>Goes.brk hk (fun hk=>Zb2 i (i.2.2.1 !=(0:Int)) hk) (fun hk=>Zb2 i false hk)))) (fun hk=>Goes.brk hk (fun hk=>Zb2 i (i.2.2.1 !=(0:Int)) hk) (fun hk=>Zb2 i false hk))))
def Zil (i:El Za):Int:=bif (decide (i.1 < (1:Int))) then Zbv i true else bif (decide (i.1 > (14:Int))) then Zbv i true else bif (! (Zak i)) then Zbv i true else bif (! (ZaF i.1)) then Zbv i (! (eqB i.2.2.2.2.2.1 (bs []))) else Zbv i false
def ZkQ (i:El Za):Bool:=bif (decide (i.1 < (1:Int))) then Zbr i true else bif (decide (i.1 > (14:Int))) then Zbr i true else bif (! (Zak i)) then Zbr i true else bif (! (ZaF i.1)) then Zbr i (! (eqB i.2.2.2.2.2.1 (bs []))) else Zbr i false
theorem ZAU (i:El Za) (hk:ZkQ i=true):Goes (Zfo i) (ZkO i) (Zil i):=Goes.brk hk (fun hk=>ZcV i true hk) (fun hk=>Goes.brk hk (fun hk=>ZcV i true hk) (fun hk=>Goes.brk hk (fun hk=>ZcV i true hk) (fun hk=>Goes.brk hk (fun hk=>ZcV i (! (eqB i.2.2.2.2.2.1 (bs []))) hk) (fun hk=>ZcV i false hk))))
def Zio:Int→AV:=fun (r:Int)=>.d (.int .i64) r
def ZcA (i:El Za):ZfR→Nat×St |.l2 h=>(2,⟨mkTm 59 [(1,.pt 2 0 0),(26,.d .bool h)],[(2,0,.box 47 [.d (.int .i64) i.1,.d .bool i.2.1,.d (.int .i64) i.2.2.1,.d (.int .i64) i.2.2.2.1.1,.d (.int .i64) i.2.2.2.1.2.1,.d (.int .i64) i.2.2.2.1.2.2.1,.d (.int .i64) i.2.2.2.1.2.2.2,.d (.int .i64) i.2.2.2.2.1.1,.d (.int .i64) i.2.2.2.2.1.2.1,.d (.int .i64) i.2.2.2.2.1.2.2.1,.d (.int .i64) i.2.2.2.2.1.2.2.2,.d .str i.2.2.2.2.2.1,.d (.sl .str) i.2.2.2.2.2.2] none)]⟩) |.l5 h=>(5,⟨mkTm 59 [(1,.pt 2 0 0),(49,.d .bool h)],[(2,0,.box 47 [.d (.int .i64) i.1,.d .bool i.2.1,.d (.int .i64) i.2.2.1,.d (.int .i64) i.2.2.2.1.1,.d (.int .i64) i.2.2.2.1.2.1,.d (.int .i64) i.2.2.2.1.2.2.1,.d (.int .i64) i.2.2.2.1.2.2.2,.d (.int .i64) i.2.2.2.2.1.1,.d (.int .i64) i.2.2.2.2.1.2.1,.d (.int .i64) i.2.2.2.2.1.2.2.1,.d (.int .i64) i.2.2.2.2.1.2.2.2,.d .str i.2.2.2.2.2.1,.d (.sl .str) i.2.2.2.2.2.2] none)]⟩)
theorem ZAW (i:El Za) (L:Lt):entryA Go.Proofs.Tryz.prog (clOf Zmp) ZkF Go.Proofs.Tryz.f95 Ziy L (toForms ZcN (i,()))=(ZkO i).run (fun v=>some (Zio v,tps (toForms ZcN (i,())))) fun j=>L (ZcA i j).1 (ZcA i j).2:=by kernel_rfl
theorem ZAV (i:El Za):∀(L:Lt) (j:ZfR),procOf (procsF Go.Proofs.Tryz.prog (clOf Zmp) ZkF Go.Proofs.Tryz.f95 Ziy (toForms ZcN (i,()))) (ZcA i j).1 L (ZcA i j).2=(Zfo i j).run (fun v=>some (Zio v,tps (toForms ZcN (i,())))) fun j=>L (ZcA i j).1 (ZcA i j).2 | L,.l2 h=>by kernel_rfl | L,.l5 h=>by kernel_rfl
end
end Go.Ev
end

section
open Go
namespace Go.Ev
def Zqw (op cond:Int) (row nm te:Bool) (h:Bool):Int:=
 bif h then
  (4:Int)
 else bif (bif (op==(10:Int)) then true else (op==(11:Int))) then
  bif true then
   bif (! nm) then
    (3:Int)
   else (0:Int)
  else (0:Int)
 else (0:Int)
def Zve (op cond:Int) (row nm te:Bool) (h:Bool):Int:=
 bif h then
  (4:Int)
 else bif (op==(11:Int)) then
  bif (decide (cond < (1:Int))) then
   Zqw op cond row nm te true
  else bif (decide (cond > (10:Int))) then
   Zqw op cond row nm te true
  else bif (op !=(11:Int)) then
   Zqw op cond row nm te (cond !=(0:Int))
  else Zqw op cond row nm te false
 else bif (op !=(11:Int)) then
  Zqw op cond row nm te (cond !=(0:Int))
 else Zqw op cond row nm te false
def refRB (op cond:Int) (row nm te:Bool):Int:=
 bif (decide (op < (1:Int))) then
  Zve op cond row nm te true
 else bif (decide (op > (14:Int))) then
  Zve op cond row nm te true
 else bif (! row) then
  Zve op cond row nm te true
 else bif (! (bif (op==(10:Int)) then true else (op==(11:Int)))) then
  Zve op cond row nm te (! te)
 else Zve op cond row nm te false
def insRB (op cond:Int) (row nm te:Bool):Int:=
 bif (op==(10:Int)) then
  bif (! (decide (1≤op)&&(decide (op≤14)&&(row&&condOK op cond)))) then
   (4:Int)
  else bif true then
   bif (! nm) then
    (3:Int)
   else (0:Int)
  else (0:Int)
 else bif (! (decide (1≤op)&&(decide (op≤14)&&(row&&condOK op cond)))) then
  (4:Int)
 else bif (! (op==(11:Int))) then
  bif (! te) then
   (4:Int)
  else bif (op==(11:Int)) then
   bif true then
    bif (! nm) then
     (3:Int)
    else (0:Int)
   else (0:Int)
  else (0:Int)
 else bif (op==(11:Int)) then
  bif true then
   bif (! nm) then
    (3:Int)
   else (0:Int)
  else (0:Int)
 else (0:Int)
theorem rightB (op cond:Int) (row nm te:Bool):refRB op cond row nm te=insRB op cond row nm te:=by
 unfold refRB Zve Zqw insRB condOK
 have beqs:∀(k c:Int),(k==c)=decide (k=c):=fun k c=>by rw[Bool.eq_iff_iff];simp
 have bnes:∀(k c:Int),(k !=c)=!decide (k=c):=fun k c=>by rw[Bool.eq_iff_iff];simp
 simp only[beqs,bnes]
 by_cases h1:op < 1
 ·have e1:decide (op=10)=false:=by simp;omega
  have e2:decide (op=11)=false:=by simp;omega
  have e3:decide (1≤op)=false:=by simp;omega
  simp[h1,e1,e2,e3]
 by_cases h2:op > 14
 ·have e1:decide (op=10)=false:=by simp;omega
  have e2:decide (op=11)=false:=by simp;omega
  have e3:decide (op≤14)=false:=by simp;omega
  simp[h1,h2,e1,e2,e3]
 have e3:decide (1≤op)=true:=by simp;omega
 have e4:decide (op≤14)=true:=by simp;omega
 by_cases h10:op=10
 ·subst h10
  by_cases hc:cond=0 <;> cases row <;> cases nm <;> simp[hc]
 by_cases h11:op=11
 ·subst h11
  have f1:decide (1≤cond)=!decide (cond < 1):=by by_cases h:cond < 1 <;> simp[h] <;> omega
  have f2:decide (cond≤10)=!decide (cond > 10):=by by_cases h:cond > 10 <;> simp[h] <;> omega
  rw[f1,f2]
  by_cases hc:cond < 1 <;> by_cases hd:cond > 10 <;> cases row <;> cases nm <;> simp[hc,hd]
 by_cases hc:cond=0 <;> cases row <;> cases te <;> simp[h1,h2,h10,h11,e3,e4,hc]
def ZB (i:El Za):Int:=ZA i
def ZC (i:El Za):Bool:=smallText i.2.2.2.2.2.1
theorem ZDh (i:El Za) (hk:ZC i=true):Goes (Zfo i) (ZkO i) (ZB i):=by
 have h1:Zcg i.2.2.2.2.2.1=true:=hk
 have h2:Zae i.2.2.2.2.2.1=true:=hk
 have hku:ZkQ i=true:=by
  unfold ZkQ Zbr Za2
  simp only[h1,cond_true,Bool.cond_self]
 have hr:Zil i=refRB i.1 i.2.2.1 (Zak i) (nameRight i.2.2.2.2.2.1) (eqB i.2.2.2.2.2.1 (bs [])):=by
  unfold Zil Zbv Za7
  simp only[h1]
  rfl
 have hp:Zc9 i=insRB i.1 i.2.2.1 (Zak i) (nameRight i.2.2.2.2.2.1) (eqB i.2.2.2.2.2.1 (bs [])):=by
  unfold Zc9
  simp only[h2,ZBD]
  rfl
 have e:ZB i=Zil i:=by
  rw[hr,rightB,←hp]
  rfl
 rw[e]
 exact ZAU i hku
end Go.Ev
end

section
open Go Go.Ev
namespace Go.Ev
noncomputable section
noncomputable def Zcp:Run:=entG ZcN Zio (fun a=>ZC a.1) (fun a=>ZB a.1)
theorem ZcI:EntOK Go.Proofs.Tryz.prog 95 Zcp:=ZH (tb:=ZkF) (c:=Ziy) ZA3 (by kernel_rfl) (by kernel_rfl) (by kernel_rfl) (fun a=>by kernel_rfl) fun ⟨i,_⟩ hk=>Zm (c:=Ziy) (K:=fun v=>(Zio v,tps (toForms ZcN (i,())))) (S:=ZcA i) (by kernel_rfl) (ZAW i) (ZAV i) (ZDh i hk)
end
end Go.Ev
end

section
open Go Go.Ev
namespace Go.Ev
noncomputable section
def Zdt:Sig:=[(true,Zc),(true,Zi)]
noncomputable def Zo3:Tbl:=[(132,ZiD)]
theorem ZCL:∀p∈Zo3,EntOK Go.Proofs.Tryz.prog p.1 p.2:=Zg Zj3 (Zt)
noncomputable def ZjH:Code:=Go.Proofs.Tryz.f96.body.getD .skip
def ZmO:Tb:=[]
def ZvC (p:El Zc) (o:El Zi):Empty→JT Empty (Int):=fun j=>nomatch j
def ZtI (p:El Zc) (o:El Zi):JT Empty (Int):=.br (! (ZF o)) (.leaf (0:Int)) (.br (decide (o.2.2.1≥(Int.ofNat (List.length p.1)))) (.leaf (7:Int)) (.br (o.1==(3:Int)) (.br ((decide ((0:Int)≤o.2.2.1))&&(decide (o.2.2.1 < (Int.ofNat (List.length p.1))))) (.br (decide (o.2.2.2≥(List.getD p.1 (Int.toNat o.2.2.1) (dflt Zy)).2.1)) (.leaf (8:Int)) (.leaf (0:Int))) (.no)) (.leaf (0:Int))))
def Zci (p:El Zc) (o:El Zi):Int:=bif (! (ZF o)) then (0:Int) else bif (decide (o.2.2.1≥(Int.ofNat (List.length p.1)))) then (7:Int) else bif (o.1==(3:Int)) then bif ((decide ((0:Int)≤o.2.2.1))&&(decide (o.2.2.1 < (Int.ofNat (List.length p.1))))) then bif (decide (o.2.2.2≥(List.getD p.1 (Int.toNat o.2.2.1) (dflt Zy)).2.1)) then (8:Int) else (0:Int) else (0:Int) else (0:Int)
def Zeq (p:El Zc) (o:El Zi):Bool:=bif (! (ZF o)) then true else bif (decide (o.2.2.1≥(Int.ofNat (List.length p.1)))) then true else bif (o.1==(3:Int)) then bif ((decide ((0:Int)≤o.2.2.1))&&(decide (o.2.2.1 < (Int.ofNat (List.length p.1))))) then bif (decide (o.2.2.2≥(List.getD p.1 (Int.toNat o.2.2.1) (dflt Zy)).2.1)) then true else true else false else true
theorem ZEA (p:El Zc) (o:El Zi) (hk:Zeq p o=true):Goes (ZvC p o) (ZtI p o) (Zci p o):=Goes.brk hk (fun hk=>Goes.leaf) (fun hk=>Goes.brk hk (fun hk=>Goes.leaf) (fun hk=>Goes.brk hk (fun hk=>Goes.brk hk (fun hk=>Goes.brk hk (fun hk=>Goes.leaf) (fun hk=>Goes.leaf)) (fun hk=>Goes.nok hk)) (fun hk=>Goes.leaf)))
def ZjZ:Int→AV:=fun (r:Int)=>.d (.int .i64) r
def ZcY (p:El Zc) (o:El Zi):Empty→Nat×St:=fun j=>nomatch j
theorem ZCN (p:El Zc) (o:El Zi) (L:Lt):entryA Go.Proofs.Tryz.prog (clOf Zo3) ZmO Go.Proofs.Tryz.f96 ZjH L (toForms Zdt (p,o,()))=(ZtI p o).run (fun v=>some (ZjZ v,tps (toForms Zdt (p,o,())))) fun j=>L (ZcY p o j).1 (ZcY p o j).2:=by kernel_rfl
theorem ZBV (p:El Zc) (o:El Zi):∀(L:Lt) (j:Empty),procOf (procsF Go.Proofs.Tryz.prog (clOf Zo3) ZmO Go.Proofs.Tryz.f96 ZjH (toForms Zdt (p,o,()))) (ZcY p o j).1 L (ZcY p o j).2=(ZvC p o j).run (fun v=>some (ZjZ v,tps (toForms Zdt (p,o,())))) fun j=>L (ZcY p o j).1 (ZcY p o j).2:=fun L j=>nomatch j
noncomputable def Zvt:Run:=entG Zdt ZjZ (fun a=>Zeq a.1 a.2.1) (fun a=>Zci a.1 a.2.1)
theorem ZDK:EntOK Go.Proofs.Tryz.prog 96 Zvt:=ZH (tb:=ZmO) (c:=ZjH) ZCL (by kernel_rfl) (by kernel_rfl) (by kernel_rfl) (fun a=>by kernel_rfl) fun ⟨p,o,_⟩ hk=>Zm (c:=ZjH) (K:=fun v=>(ZjZ v,tps (toForms Zdt (p,o,())))) (S:=ZcY p o) (by kernel_rfl) (ZCN p o) (ZBV p o) (ZEA p o hk)
end
end Go.Ev
end

section
open Go Go.Ev
namespace Go.Ev
noncomputable section
def Zib:Sig:=[(true,(.sl Za)),(false,.str)]
noncomputable def Zw5:Tbl:=[(94,Znz)]
theorem ZLK:∀p∈Zw5,EntOK Go.Proofs.Tryz.prog p.1 p.2:=Zg Zrp (Zt)
noncomputable def Zqe:Code:=Go.Proofs.Tryz.f98.body.getD .skip
def Zt4:Tb:=[(3,⟨[1,2,5],[]⟩)]
inductive Zmk where | l3 (i:Int)
def Zmt (t:List (El Za)) (label:ByteArray):Zmk→JT Zmk (Int) |.l3 i=>.br (decide (i < (Int.ofNat (List.length t)))) (.br ((decide ((0:Int)≤i))&&(decide (i < (Int.ofNat (List.length t))))) (.br (Zam (List.getD t (Int.toNat i) (dflt Za)).2.2.2.2.2.2 label) (.br (decide ((Z3 (List.getD t (Int.toNat i) (dflt Za)).2.2.2.2.2.2 label)≥(0:Int))) (.leaf i) (.jmp (.l3 (IntKind.i64.wrap (i+(1:Int)))))) (.no)) (.no)) (.leaf (-1:Int))
def Ztk (t:List (El Za)) (label:ByteArray):JT Zmk (Int):=.jmp (.l3 (0:Int))
def Zre:Int→AV:=fun (r:Int)=>.d (.int .i64) r
def Zho (t:List (El Za)) (label:ByteArray):Zmk→Nat×St |.l3 i=>(3,⟨mkTm 23 [(1,.d .str label),(2,.pt 3 0 0),(5,.d (.int .i64) i)],[(3,0,.box 42 [.d (.sl Za) t] none)]⟩)
theorem ZMk (t:List (El Za)) (label:ByteArray) (L:Lt):entryA Go.Proofs.Tryz.prog (clOf Zw5) Zt4 Go.Proofs.Tryz.f98 Zqe L (toForms Zib (t,label,()))=(Ztk t label).run (fun v=>some (Zre v,tps (toForms Zib (t,label,())))) fun j=>L (Zho t label j).1 (Zho t label j).2:=by kernel_rfl
theorem ZJ7 (t:List (El Za)) (label:ByteArray):∀(L:Lt) (j:Zmk),procOf (procsF Go.Proofs.Tryz.prog (clOf Zw5) Zt4 Go.Proofs.Tryz.f98 Zqe (toForms Zib (t,label,()))) (Zho t label j).1 L (Zho t label j).2=(Zmt t label j).run (fun v=>some (Zre v,tps (toForms Zib (t,label,())))) fun j=>L (Zho t label j).1 (Zho t label j).2 | L,.l3 i=>by kernel_rfl
end
end Go.Ev
end

section
open Go
namespace Go.Ev
def Zdk (t:List (El Za)) (label:ByteArray):Int:=findI label t 0
def Ze2 (t:List (El Za)) (label:ByteArray):Bool:=decide (t.length < 1099511627776)&&t.all fun i=>decide (i.2.2.2.2.2.2.length < 1099511627776)
theorem ZM3 (t:List (El Za)) (label:ByteArray) (hk:Ze2 t label=true):Goes (Zmt t label) (Ztk t label) (Zdk t label):=by
 unfold Ze2 at hk
 simp only[Bool.and_eq_true,decide_eq_true_eq,List.all_eq_true] at hk
 obtain ⟨hn,hl⟩:=hk
 have loop:∀k,k≤t.length→Goes (Zmt t label) (.jmp (.l3 (k:Int))) (findI label (t.drop k) k):=by
  refine down ?_ fun k hk ih=>?_
  ·rw[Zh]
   simp only[Zmt,Ze,Zw (Nat.lt_irrefl _),ZR,List.drop_length]
   simp[findI]
  ·have hli:=hl t[k] (List.getElem_mem hk)
   have hki:Zam t[k].2.2.2.2.2.2 label=true:=decide_eq_true (by omega)
   rw[Zh]
   simp only[Zmt,Ze,ZK hk,nng,Bool.and_self,if_true,Int.toNat_natCast,ZG hk,Zo (k:=k) (by omega),hki]
   rw[ZM hk]
   unfold findI
   have hi:decide (Z3 t[k].2.2.2.2.2.2 label≥0)=t[k].2.2.2.2.2.2.contains label:=by
    rw[←Zjd (k:=0)]
    unfold Z3
    cases h:findFrom label t[k].2.2.2.2.2.2 0 with
    | none=>rfl
    | some n=>simp
   rw[hi]
   split
   ·exact .leaf
   ·exact ih
 unfold Ztk Zdk
 simpa using loop 0 (Nat.zero_le _)
end Go.Ev
end

section
open Go Go.Ev
namespace Go.Ev
noncomputable section
noncomputable def Zwu:Run:=entG Zib Zre (fun a=>Ze2 a.1 a.2.1) (fun a=>Zdk a.1 a.2.1)
theorem Zz4:EntOK Go.Proofs.Tryz.prog 98 Zwu:=ZH (tb:=Zt4) (c:=Zqe) ZLK (by kernel_rfl) (by kernel_rfl) (by kernel_rfl) (fun a=>by kernel_rfl) fun ⟨t,label,_⟩ hk=>Zm (c:=Zqe) (K:=fun v=>(Zre v,tps (toForms Zib (t,label,())))) (S:=Zho t label) (by kernel_rfl) (ZMk t label) (ZJ7 t label) (ZM3 t label hk)
end
end Go.Ev
end

section
open Go Go.Ev
namespace Go.Ev
noncomputable section
def ZeL:Sig:=[(true,Zc),(true,(.sl Za))]
noncomputable def ZqW:Tbl:=[(93,ZAE),(60,Znq),(94,Znz),(95,Zcp),(96,Zvt),(97,Znr),(98,Zwu)]
theorem ZEJ:∀p∈ZqW,EntOK Go.Proofs.Tryz.prog p.1 p.2:=Zg ZGK (Zg ZpU (Zg Zrp (Zg ZcI (Zg ZDK (Zg ZqE (Zg Zz4 (Zt)))))))
noncomputable def Zk5:Code:=Go.Proofs.Tryz.f61.body.getD .skip
def ZoP:Tb:=[(7,⟨[2,3,5,6],[(6,90)]⟩),(14,⟨[2,3,5,6,7,8],[(6,90)]⟩),(44,⟨[3,13],[]⟩)]
inductive ZiG where | l7 (i:Int) (seen:List ByteArray) | l14 (x:Int) (x1:Bool) (x2:Int) (x3:Int) (x4:Int) (x5:Int) (x6:Int) (x7:Int) (x8:Int) (x9:Int) (x10:Int) (x11:ByteArray) (x12:List ByteArray) (k:Int) (seen:List ByteArray) (i:Int) | l44 (i:Int)
def Zbq (p:El Zc) (t:List (El Za)):ZiG→JT ZiG (Int) |.l7 i seen=>.br (decide (i < (Int.ofNat (List.length t)))) (.br ((decide ((0:Int)≤i))&&(decide (i < (Int.ofNat (List.length t))))) (.jmp (.l14 (List.getD t (Int.toNat i) (dflt Za)).1 (List.getD t (Int.toNat i) (dflt Za)).2.1 (List.getD t (Int.toNat i) (dflt Za)).2.2.1 (List.getD t (Int.toNat i) (dflt Za)).2.2.2.1.1 (List.getD t (Int.toNat i) (dflt Za)).2.2.2.1.2.1 (List.getD t (Int.toNat i) (dflt Za)).2.2.2.1.2.2.1 (List.getD t (Int.toNat i) (dflt Za)).2.2.2.1.2.2.2 (List.getD t (Int.toNat i) (dflt Za)).2.2.2.2.1.1 (List.getD t (Int.toNat i) (dflt Za)).2.2.2.2.1.2.1 (List.getD t (Int.toNat i) (dflt Za)).2.2.2.2.1.2.2.1 (List.getD t (Int.toNat i) (dflt Za)).2.2.2.2.1.2.2.2 (List.getD t (Int.toNat i) (dflt Za)).2.2.2.2.2.1 (List.getD t (Int.toNat i) (dflt Za)).2.2.2.2.2.2 (0:Int) seen i)) (.no)) (.br ((Int.ofNat (List.length t))==(0:Int)) (.leaf (9:Int)) (.br ((decide ((0:Int)≤(IntKind.i64.wrap ((Int.ofNat (List.length t)) - (1:Int)))))&&(decide ((IntKind.i64.wrap ((Int.ofNat (List.length t)) - (1:Int))) < (Int.ofNat (List.length t))))) (.br ((List.getD t (Int.toNat (IntKind.i64.wrap ((Int.ofNat (List.length t)) - (1:Int)))) (dflt Za)).1 !=(10:Int)) (.br ((List.getD t (Int.toNat (IntKind.i64.wrap ((Int.ofNat (List.length t)) - (1:Int)))) (dflt Za)).1 !=(14:Int)) (.leaf (9:Int)) (.jmp (.l44 (0:Int)))) (.jmp (.l44 (0:Int)))) (.no))) |.l14 x x1 x2 x3 x4 x5 x6 x7 x8 x9 x10 x11 x12 k seen i=>.br (decide (k < (Int.ofNat (List.length x12)))) (.br ((decide ((0:Int)≤k))&&(decide (k < (Int.ofNat (List.length x12))))) (.br (Zcg (List.getD x12 (Int.toNat k) (dflt .str))) (.br (! (ZdE (List.getD x12 (Int.toNat k) (dflt .str)))) (.leaf (3:Int)) (.br ((decide ((0:Int)≤k))&&(decide (k < (Int.ofNat (List.length x12))))) (.br (Zam seen (List.getD x12 (Int.toNat k) (dflt .str))) (.br (decide ((Z3 seen (List.getD x12 (Int.toNat k) (dflt .str)))≥(0:Int))) (.leaf (6:Int)) (.br ((decide ((0:Int)≤k))&&(decide (k < (Int.ofNat (List.length x12))))) (.br (Nat.ble (((List.length seen)+1)*16) limit) (.jmp (.l14 x x1 x2 x3 x4 x5 x6 x7 x8 x9 x10 x11 x12 (IntKind.i64.wrap (k+(1:Int))) (seen++[(List.getD x12 (Int.toNat k) (dflt .str))]) i)) (.no)) (.no))) (.no)) (.no))) (.no)) (.no)) (.br (ZC (x,(x1,(x2,((x3,(x4,(x5,x6))),((x7,(x8,(x9,x10))),(x11,x12))))))) (.br ((ZB (x,(x1,(x2,((x3,(x4,(x5,x6))),((x7,(x8,(x9,x10))),(x11,x12))))))) !=(0:Int)) (.leaf (ZB (x,(x1,(x2,((x3,(x4,(x5,x6))),((x7,(x8,(x9,x10))),(x11,x12)))))))) (.br (Zeq p (x3,(x4,(x5,x6)))) (.br ((Zci p (x3,(x4,(x5,x6)))) !=(0:Int)) (.leaf (Zci p (x3,(x4,(x5,x6))))) (.br (Zeq p (x7,(x8,(x9,x10)))) (.br ((Zci p (x7,(x8,(x9,x10)))) !=(0:Int)) (.leaf (Zci p (x7,(x8,(x9,x10))))) (.jmp (.l7 (IntKind.i64.wrap (i+(1:Int))) seen))) (.no))) (.no))) (.no)) |.l44 i=>.br (decide (i < (Int.ofNat (List.length t)))) (.br ((decide ((0:Int)≤i))&&(decide (i < (Int.ofNat (List.length t))))) (.br (ZaF (List.getD t (Int.toNat i) (dflt Za)).1) (.br ((decide ((0:Int)≤i))&&(decide (i < (Int.ofNat (List.length t))))) (.br (Ze2 t (List.getD t (Int.toNat i) (dflt Za)).2.2.2.2.2.1) (.br (decide ((Zdk t (List.getD t (Int.toNat i) (dflt Za)).2.2.2.2.2.1) < (0:Int))) (.leaf (7:Int)) (.jmp (.l44 (IntKind.i64.wrap (i+(1:Int)))))) (.no)) (.no)) (.jmp (.l44 (IntKind.i64.wrap (i+(1:Int)))))) (.no)) (.leaf (0:Int))
def ZoU (p:El Zc) (t:List (El Za)):JT ZiG (Int):=.br (Zor t) (.br (decide ((Zka t) > (4096:Int))) (.leaf (10:Int)) (.jmp (.l7 (0:Int) []))) (.no)
def ZlQ:Int→AV:=fun (r:Int)=>.d (.int .i64) r
def ZdX (p:El Zc) (t:List (El Za)):ZiG→Nat×St |.l7 i seen=>(7,⟨mkTm 122 [(2,.pt 3 0 0),(3,.pt 4 0 0),(5,.own 6 0 none),(6,.d (.int .i64) i)],[(3,0,.box 26 [.d (.sl Zy) p.1,.d (.sl (.sl Za)) p.2] none),(4,0,.box 42 [.d (.sl Za) t] none),(6,0,.row 9 .str seen false)]⟩) |.l14 x x1 x2 x3 x4 x5 x6 x7 x8 x9 x10 x11 x12 k seen i=>(14,⟨mkTm 122 [(2,.pt 3 0 0),(3,.pt 4 0 0),(5,.own 6 0 none),(6,.d (.int .i64) i),(7,.pt 8 0 0),(8,.d (.int .i64) k)],[(3,0,.box 26 [.d (.sl Zy) p.1,.d (.sl (.sl Za)) p.2] none),(4,0,.box 42 [.d (.sl Za) t] none),(6,0,.row 9 .str seen false),(8,0,.box 47 [.d (.int .i64) x,.d .bool x1,.d (.int .i64) x2,.d (.int .i64) x3,.d (.int .i64) x4,.d (.int .i64) x5,.d (.int .i64) x6,.d (.int .i64) x7,.d (.int .i64) x8,.d (.int .i64) x9,.d (.int .i64) x10,.d .str x11,.d (.sl .str) x12] none)]⟩) |.l44 i=>(44,⟨mkTm 122 [(3,.pt 4 0 0),(13,.d (.int .i64) i)],[(4,0,.box 42 [.d (.sl Za) t] none)]⟩)
theorem ZEl (p:El Zc) (t:List (El Za)) (L:Lt):entryA Go.Proofs.Tryz.prog (clOf ZqW) ZoP Go.Proofs.Tryz.f61 Zk5 L (toForms ZeL (p,t,()))=(ZoU p t).run (fun v=>some (ZlQ v,tps (toForms ZeL (p,t,())))) fun j=>L (ZdX p t j).1 (ZdX p t j).2:=by kernel_rfl
theorem ZE3 (p:El Zc) (t:List (El Za)):∀(L:Lt) (j:ZiG),procOf (procsF Go.Proofs.Tryz.prog (clOf ZqW) ZoP Go.Proofs.Tryz.f61 Zk5 (toForms ZeL (p,t,()))) (ZdX p t j).1 L (ZdX p t j).2=(Zbq p t j).run (fun v=>some (ZlQ v,tps (toForms ZeL (p,t,())))) fun j=>L (ZdX p t j).1 (ZdX p t j).2 | L,.l7 i seen=>by kernel_rfl | L,.l14 x x1 x2 x3 x4 x5 x6 x7 x8 x9 x10 x11 x12 k seen i=>by kernel_rfl | L,.l44 i=>by kernel_rfl
end
end Go.Ev
end

section
open Go
namespace Go.Ev
def ZiM (p:El Zc) (t:List (El Za)):Int:=threadC p t
def Zlj (p:El Zc) (t:List (El Za)):Bool:=smallThread t
theorem ZMF (len:Nat) (size:Int→Int) (k s n:Int) (h:(k=3∨k=4)→0≤s):
 (bif (! (decide (k=3) || decide (k=4))) then
  (0:Int)
 else bif (decide (s≥(Int.ofNat len))) then
  (7:Int)
 else bif (k==(3:Int)) then
  bif ((decide ((0:Int)≤s))&&(decide (s < (Int.ofNat len)))) then
   bif (decide (n≥size s)) then
    (8:Int)
   else (0:Int)
  else (0:Int)
 else (0:Int))=placeN len size k s n∧
 (bif (! (decide (k=3) || decide (k=4))) then
  true
 else bif (decide (s≥(Int.ofNat len))) then
  true
 else bif (k==(3:Int)) then
  bif ((decide ((0:Int)≤s))&&(decide (s < (Int.ofNat len)))) then
   bif (decide (n≥size s)) then
    true
   else true
  else false
 else true)=true:=by
 unfold placeN
 by_cases h3:k=3
 ·have h0:=h (.inl h3)
  subst h3
  by_cases hl:(len:Int)≤s
  ·simp[hl]
  have h2:s < (len:Int):=by omega
  have h1:¬s < 0:=by omega
  by_cases hn:size s≤n
  ·simp[hl,hn,h0,h1,h2]
  ·simp[hl,hn,h0,h1,h2]
 by_cases h4:k=4
 ·have h0:=h (.inr h4)
  subst h4
  have h1:¬s < 0:=by omega
  by_cases hl:(len:Int)≤s
  ·simp[hl]
  simp[hl,h1]
 simp[h3,h4]
theorem ZFz (p:El Zc) (o:El Zi) (h:∀k s:Int,o.1=k→o.2.2.1=s→(k=3∨k=4)→0≤s):Zci p o=placeC p o∧Zeq p o=true:=by
 have:=ZMF p.1.length (fun s=>(List.getD p.1 s.toNat (dflt Zy)).2.1) o.1 o.2.2.1 o.2.2.2 (h _ _ rfl rfl)
 unfold Zci Zeq
 rw[ZeY]
 exact this
theorem ZFk {k r s n:Int} (h:ZE (k,r,s,n)=true) (hk:k=3∨k=4):0≤s:=by
 unfold ZE at h
 rcases hk with rfl | rfl
 ·by_cases hs:0≤s
  ·exact hs
  ·simp[hs] at h
 ·by_cases hs:0≤s
  ·exact hs
  ·simp[hs] at h
theorem ZSt {i:El Za} (hr:ZA i=0):(∀k s:Int,i.2.2.2.1.1=k→i.2.2.2.1.2.2.1=s→(k=3∨k=4)→0≤s)∧∀k s:Int,i.2.2.2.2.1.1=k→i.2.2.2.2.1.2.2.1=s→(k=3∨k=4)→0≤s:=by
 obtain ⟨h1,h14,hrow⟩:=Zy9 hr
 rcases nine i.1 with ⟨h9,_⟩ | ⟨h9,_⟩
 ·obtain ⟨a,b⟩:=ZQR hrow h1 h9
  exact ⟨fun k s hk hs h=>hs▸ZFk (k:=i.2.2.2.1.1) (r:=i.2.2.2.1.2.1) (s:=i.2.2.2.1.2.2.1) (n:=i.2.2.2.1.2.2.2) a (hk▸h),fun k s hk hs h=>hs▸ZFk (k:=i.2.2.2.2.1.1) (r:=i.2.2.2.2.1.2.1) (s:=i.2.2.2.2.1.2.2.1) (n:=i.2.2.2.2.1.2.2.2) b (hk▸h)⟩
 ·obtain ⟨a,b⟩:=ZOi hrow h9
  refine ⟨fun k s hk hs h=>?_,fun k s hk hs h=>?_⟩
  ·have:k=0:=hk▸a
   omega
  ·have:k=0:=hk▸b
   omega
theorem ZIV (p:El Zc) (t:List (El Za)) (hk:Zlj p t=true):Goes (Zbq p t) (ZoU p t) (ZiM p t):=by
 have hS:=smallT hk
 have hn:=hS.len
 have hkf:∀l,Ze2 t l=true:=fun l=>by
  unfold Ze2
  simp only[Bool.and_eq_true,decide_eq_true_eq,List.all_eq_true]
  exact ⟨hn,fun i hi=>Nat.lt_of_le_of_lt (ZyY hi) hS.labs⟩
 have jmps:∀k,k≤t.length→Goes (Zbq p t) (.jmp (.l44 (k:Int))) (jumpC (labels t) (t.drop k)):=by
  refine down ?_ fun k hk ih=>?_
  ·rw[Zh]
   simp only[Zbq,Ze,Zw (Nat.lt_irrefl _),ZR,List.drop_length]
   simp[jumpC]
  ·rw[Zh]
   simp only[Zbq,Ze,ZK hk,nng,Bool.and_self,if_true,Int.toNat_natCast,ZG hk,Zo (k:=k) (by omega),hkf,ZRq]
   have hfi:decide (Zdk t t[k].2.2.2.2.2.1 < 0)=! (labels t).contains t[k].2.2.2.2.2.1:=ZLV
   rw[hfi,ZM hk]
   unfold jumpC
   by_cases h1:((t[k].1==(10:Int)) || (t[k].1==(11:Int)))=true
   ·rw[if_pos h1,if_pos h1]
    by_cases h2:(labels t).contains t[k].2.2.2.2.2.1=true
    ·rw[if_pos h2,if_neg (by rw[h2];decide)];exact ih
    ·rw[if_neg h2,if_pos (by rw[Bool.eq_false_iff.2 h2];rfl)];exact .leaf
   ·rw[if_neg h1,if_neg h1];exact ih
 have main:∀k,k≤t.length→Goes (Zbq p t) (.jmp (.l7 (k:Int) (labels (t.take k)))) (scanI p (fun seen=>endC t (jumpC seen t)) (labels (t.take k)) (t.drop k)):=by
  refine down ?_ fun k hk ih=>?_
  ·have hj:=jmps 0 (Nat.zero_le _)
   rw[List.drop_zero] at hj
   rw[Zh,List.drop_length,List.take_length]
   unfold scanI
   simp only[Zbq,Ze,Zw (Nat.lt_irrefl _)]
   rw[if_neg (by decide)]
   by_cases h0:t.length=0
   ·have:t=[]:=List.eq_nil_of_length_eq_zero h0
    rw[this];simp[ZR,endC]
   ·have hp:0 < t.length:=by omega
    rw[if_neg (by simp;exact fun e=>h0 (by rw[e];rfl)),ZME hp]
    rw[show Int.ofNat t.length=(t.length:Int) from rfl,ZLm (k:=t.length) (by omega) hp]
    have hb:(decide (0≤((t.length - 1:Nat):Int))&&decide (((t.length - 1:Nat):Int) < (t.length:Int)))=true:=by simp;omega
    simp only[hb,if_true,Int.toNat_natCast,ZG (show t.length - 1 < t.length by omega)]
    unfold bne
    cases h10:(t[t.length - 1].1==(10:Int)) with
    | true=>simpa using hj
    | false=>
     cases h14:(t[t.length - 1].1==(14:Int)) with
     | true=>simpa using hj
     | false=>simp[ZR]
  ·have hmem:t[k]∈t:=List.getElem_mem hk
   have hto:=hS.to _ hmem
   have hlab:=hS.lab _ hmem
   have hlen:=Nat.lt_of_le_of_lt (ZyY hmem) hS.labs
   have htk:labels (t.take (k+1))=labels (t.take k)++t[k].2.2.2.2.2.2:=by
    unfold labels
    rw[List.take_add_one,List.getElem?_eq_getElem hk,List.flatMap_append]
    simp
   have hall:labels t=labels (t.take (k+1))++labels (t.drop (k+1)):=by
    unfold labels
    rw[←List.flatMap_append,List.take_append_drop]
   have hlt:(labels (t.take (k+1))).length < 1099511627776:=by
    have:=hS.labs
    rw[hall,List.length_append] at this
    omega
   rw[Zh]
   simp only[Zbq,Ze,ZK hk,nng,Bool.and_self,if_true,Int.toNat_natCast,ZG hk]
   rw[ZM hk]
   unfold scanI
   rw[htk] at ih hlt
   generalize t[k]=i at hto hlab hlen htk ih hlt
   obtain ⟨op,lock,cond,⟨ak,ar,ay,an⟩,⟨bk,br,bz,bn⟩,to,ls⟩:=i
   dsimp only at hto hlab hlen htk ih hlt ⊢
   have inner:∀j,j≤ls.length→Goes (Zbq p t) (.jmp (.l14 op lock cond ak ar ay an bk br bz bn to ls (j:Int) (labels (t.take k)++ls.take j) (k:Int))) (scanL (labels (t.take k)++ls.take j) (fun seen=>if insC p (op,(lock,(cond,((ak,(ar,(ay,an))),((bk,(br,(bz,bn))),(to,ls))))))≠0 then insC p (op,(lock,(cond,((ak,(ar,(ay,an))),((bk,(br,(bz,bn))),(to,ls)))))) else scanI p (fun seen=>endC t (jumpC seen t)) seen (t.drop (k+1))) (ls.drop j)):=by
    refine down ?_ fun j hj ihj=>?_
    ·rw[Zh,List.drop_length,List.take_length]
     unfold scanL
     have hkr:ZC (op,(lock,(cond,((ak,(ar,(ay,an))),((bk,(br,(bz,bn))),(to,ls))))))=true:=hto
     simp only[Zbq,Ze,Zw (Nat.lt_irrefl _),hkr,if_true,Zo (k:=k) (by omega)]
     rw[if_neg (by decide)]
     unfold insC ZB
     dsimp only
     by_cases hr:ZA (op,(lock,(cond,((ak,(ar,(ay,an))),((bk,(br,(bz,bn))),(to,ls))))))=0
     ·obtain ⟨oa,ob⟩:=ZSt hr
      obtain ⟨a1,a2⟩:=ZFz p (ak,(ar,(ay,an))) oa
      obtain ⟨b1,b2⟩:=ZFz p (bk,(br,(bz,bn))) ob
      by_cases ha:placeC p (ak,(ar,(ay,an)))=0
      ·by_cases hb:placeC p (bk,(br,(bz,bn)))=0
       ·simp[hr,ha,hb,a1,a2,b1,b2];exact ih
       ·simp[hr,ha,hb,a1,a2,b1,b2,ZR]
      ·simp[hr,ha,a1,a2,ZR]
     ·simp[hr,ZR]
    ·have hl:=hlab ls[j] (List.getElem_mem hj)
     have hkn:Zcg ls[j]=true:=hl
     have hsl:(labels (t.take k)++ls.take j).length < 1099511627776:=by
      rw[List.length_append] at hlt ⊢
      rw[List.length_take]
      omega
     have hki:Zam (labels (t.take k)++ls.take j) ls[j]=true:=decide_eq_true (by omega)
     have hap:Nat.ble (((labels (t.take k)++ls.take j).length+1)*16) limit=true:=by apply Nat.ble_eq_true_of_le;unfold limit;omega
     have htj:labels (t.take k)++ls.take (j+1)=(labels (t.take k)++ls.take j)++[ls[j]]:=by
      rw[List.take_add_one,List.getElem?_eq_getElem hj,List.append_assoc];rfl
     rw[htj] at ihj
     rw[Zh]
     simp only[Zbq,Ze,ZK hj,nng,Bool.and_self,if_true,Int.toNat_natCast,ZG hj,Zo (k:=j) (by omega),hkn,hki,hap,ZEh]
     rw[ZM hj]
     unfold scanL
     by_cases h1:nameRight ls[j]=false
     ·rw[if_pos h1,if_pos (by show (! nameRight ls[j])=true;rw[h1];rfl)];exact .leaf
     ·rw[if_neg h1,if_neg (by show ¬(! nameRight ls[j])=true;simpa using h1)]
      by_cases h2:(labels (t.take k)++ls.take j).contains ls[j]=true
      ·rw[if_pos h2,if_pos h2];exact .leaf
      ·rw[if_neg h2,if_neg h2];exact ihj
   have:=inner 0 (Nat.zero_le _)
   rw[List.drop_zero,List.take_zero,List.append_nil] at this
   exact this
 unfold ZoU ZiM
 have hkc:Zor t=true:=decide_eq_true hn
 simp only[Ze,hkc,if_true]
 unfold threadC Zka
 by_cases h:4096 < countM t
 ·rw[if_pos (by simp;omega),if_pos h];exact .leaf
 ·rw[if_neg (by simp;omega),if_neg h]
  exact main 0 (Nat.zero_le _)
end Go.Ev
end

section
open Go Go.Ev
namespace Go.Ev
noncomputable section
noncomputable def Zyi:Run:=entG ZeL ZlQ (fun a=>Zlj a.1 a.2.1) (fun a=>ZiM a.1 a.2.1)
theorem ZDP:EntOK Go.Proofs.Tryz.prog 61 Zyi:=ZH (tb:=ZoP) (c:=Zk5) ZEJ (by kernel_rfl) (by kernel_rfl) (by kernel_rfl) (fun a=>by kernel_rfl) fun ⟨p,t,_⟩ hk=>Zm (c:=Zk5) (K:=fun v=>(ZlQ v,tps (toForms ZeL (p,t,())))) (S:=ZdX p t) (by kernel_rfl) (ZEl p t) (ZE3 p t) (ZIV p t hk)
end
end Go.Ev
end

section
open Go Go.Ev
namespace Go.Ev
noncomputable section
def ZfY:Sig:=[(true,Zc)]
noncomputable def Zuj:Tbl:=[(60,Znq),(61,Zyi)]
theorem ZHM:∀p∈Zuj,EntOK Go.Proofs.Tryz.prog p.1 p.2:=Zg ZpU (Zg ZDP (Zt))
noncomputable def Znk:Code:=Go.Proofs.Tryz.f34.body.getD .skip
def ZqV:Tb:=[(6,⟨[1,3],[]⟩),(16,⟨[1,3,4,5],[]⟩),(26,⟨[1,6],[]⟩)]
inductive ZkD where | l6 (i:Int) | l16 (x:ByteArray) (x1:Int) (x2:List Int) (i:Int) (k:Int) | l26 (i:Int)
def Zb0 (p:El Zc):ZkD→JT ZkD (Int) |.l6 i=>.br (decide (i < (Int.ofNat (List.length p.1)))) (.br ((decide ((0:Int)≤i))&&(decide (i < (Int.ofNat (List.length p.1))))) (.br (Zcg (List.getD p.1 (Int.toNat i) (dflt Zy)).1) (.br (! (ZdE (List.getD p.1 (Int.toNat i) (dflt Zy)).1)) (.leaf (3:Int)) (.jmp (.l16 (List.getD p.1 (Int.toNat i) (dflt Zy)).1 (List.getD p.1 (Int.toNat i) (dflt Zy)).2.1 (List.getD p.1 (Int.toNat i) (dflt Zy)).2.2 i (0:Int)))) (.no)) (.no)) (.jmp (.l26 (0:Int))) |.l16 x x1 x2 i k=>.br (decide (k < i)) (.br ((decide ((0:Int)≤k))&&(decide (k < (Int.ofNat (List.length p.1))))) (.br (eqB (List.getD p.1 (Int.toNat k) (dflt Zy)).1 x) (.leaf (6:Int)) (.jmp (.l16 x x1 x2 i (IntKind.i64.wrap (k+(1:Int)))))) (.no)) (.br (decide (x1 < (1:Int))) (.leaf (5:Int)) (.br (decide (x1 > (64:Int))) (.leaf (5:Int)) (.br (decide ((Int.ofNat (List.length x2)) > x1)) (.leaf (5:Int)) (.jmp (.l6 (IntKind.i64.wrap (i+(1:Int)))))))) |.l26 i=>.br (decide (i < (Int.ofNat (List.length p.2)))) (.br ((decide ((0:Int)≤i))&&(decide (i < (Int.ofNat (List.length p.2))))) (.br (Zlj p (List.getD p.2 (Int.toNat i) (dflt (.sl Za)))) (.br ((ZiM p (List.getD p.2 (Int.toNat i) (dflt (.sl Za)))) !=(0:Int)) (.leaf (ZiM p (List.getD p.2 (Int.toNat i) (dflt (.sl Za))))) (.jmp (.l26 (IntKind.i64.wrap (i+(1:Int)))))) (.no)) (.no)) (.leaf (0:Int))
def ZpX (p:El Zc):JT ZkD (Int):=.br (decide ((Int.ofNat (List.length p.1)) > (64:Int))) (.leaf (10:Int)) (.br (decide ((Int.ofNat (List.length p.2)) > (64:Int))) (.leaf (10:Int)) (.jmp (.l6 (0:Int))))
def ZnS:Int→AV:=fun (r:Int)=>.d (.int .i64) r
def Zfc (p:El Zc):ZkD→Nat×St |.l6 i=>(6,⟨mkTm 81 [(1,.pt 2 0 0),(3,.d (.int .i64) i)],[(2,0,.box 26 [.d (.sl Zy) p.1,.d (.sl (.sl Za)) p.2] none)]⟩) |.l16 x x1 x2 i k=>(16,⟨mkTm 81 [(1,.pt 2 0 0),(3,.d (.int .i64) i),(4,.pt 5 0 0),(5,.d (.int .i64) k)],[(2,0,.box 26 [.d (.sl Zy) p.1,.d (.sl (.sl Za)) p.2] none),(5,0,.box 38 [.d .str x,.d (.int .i64) x1,.d (.sl (.int .i64)) x2] none)]⟩) |.l26 i=>(26,⟨mkTm 81 [(1,.pt 2 0 0),(6,.d (.int .i64) i)],[(2,0,.box 26 [.d (.sl Zy) p.1,.d (.sl (.sl Za)) p.2] none)]⟩)
theorem ZGn (p:El Zc) (L:Lt):entryA Go.Proofs.Tryz.prog (clOf Zuj) ZqV Go.Proofs.Tryz.f34 Znk L (toForms ZfY (p,()))=(ZpX p).run (fun v=>some (ZnS v,tps (toForms ZfY (p,())))) fun j=>L (Zfc p j).1 (Zfc p j).2:=by kernel_rfl
theorem ZHj (p:El Zc):∀(L:Lt) (j:ZkD),procOf (procsF Go.Proofs.Tryz.prog (clOf Zuj) ZqV Go.Proofs.Tryz.f34 Znk (toForms ZfY (p,()))) (Zfc p j).1 L (Zfc p j).2=(Zb0 p j).run (fun v=>some (ZnS v,tps (toForms ZfY (p,())))) fun j=>L (Zfc p j).1 (Zfc p j).2 | L,.l6 i=>by kernel_rfl | L,.l16 x x1 x2 i k=>by kernel_rfl | L,.l26 i=>by kernel_rfl
end
end Go.Ev
end

section
open Go
namespace Go.Ev
def ZbS (p:El Zc):Int:=checkC p
def Zbz (p:El Zc):Bool:=smallProg p
theorem ZJk (p:El Zc) (hk:Zbz p=true):Goes (Zb0 p) (ZpX p) (ZbS p):=by
 have hth:∀t∈p.2,smallThread t=true:=by
  unfold Zbz smallProg at hk
  simp only[Bool.and_eq_true,List.all_eq_true] at hk
  exact hk.2
 have hsy:∀s∈p.1,smallText s.1=true:=by
  unfold Zbz smallProg at hk
  simp only[Bool.and_eq_true,List.all_eq_true] at hk
  exact hk.1
 obtain ⟨sy,th⟩:=p
 dsimp only at hth hsy
 have ths:th.length≤64→∀k,k≤th.length→Goes (Zb0 (sy,th)) (.jmp (.l26 (k:Int))) (thsC (sy,th) (th.drop k)):=by
  intro hn
  refine down ?_ fun k hk ih=>?_
  ·rw[Zh]
   simp only[Zb0,Ze,Zw (Nat.lt_irrefl _),ZR,List.drop_length]
   simp[thsC]
  ·have hkt:Zlj (sy,th) th[k]=true:=hth _ (List.getElem_mem hk)
   rw[Zh]
   simp only[Zb0,Ze,ZK hk,nng,Bool.and_self,if_true,Int.toNat_natCast,ZG hk,Zo (k:=k) (by omega),hkt]
   rw[ZM hk]
   unfold thsC
   show (if (threadC (sy,th) th[k] !=0)=true then _ else _)
   by_cases h:threadC (sy,th) th[k]=0
   ·rw[if_neg (by simp[h]),if_neg (by simp[h])];exact ih
   ·rw[if_pos (by simp[h]),if_pos h];exact .leaf
 have main:sy.length≤64→th.length≤64→∀k,k≤sy.length→Goes (Zb0 (sy,th)) (.jmp (.l6 (k:Int))) (symsC (thsC (sy,th) th) ((sy.take k).map fun s=>s.1) (sy.drop k)):=by
  intro hn hm
  refine down ?_ fun k hk ih=>?_
  ·rw[Zh,List.drop_length]
   unfold symsC
   simp only[Zb0,Ze,Zw (Nat.lt_irrefl _)]
   rw[if_neg (by decide)]
   simpa using ths hm 0 (Nat.zero_le _)
  ·have hkn:Zcg sy[k].1=true:=hsy _ (List.getElem_mem hk)
   have htk:(sy.take (k+1)).map (fun s=>s.1)=(sy.take k).map (fun s=>s.1)++[sy[k].1]:=by
    rw[List.take_add_one,List.getElem?_eq_getElem hk,List.map_append];rfl
   rw[htk] at ih
   rw[Zh]
   simp only[Zb0,Ze,ZK hk,nng,Bool.and_self,if_true,Int.toNat_natCast,ZG hk,hkn]
   rw[ZM hk]
   unfold symsC
   generalize sy[k]=s at ih hkn
   obtain ⟨nm,size,init⟩:=s
   dsimp only at ih hkn ⊢
   change Int at size
   by_cases h1:nameRight nm=false
   ·rw[if_pos h1,if_pos (by show (! nameRight nm)=true;rw[h1];rfl)];exact .leaf
   rw[if_neg h1,if_neg (by show ¬(! nameRight nm)=true;simpa using h1)]
   have inner:∀j,j≤k→Goes (Zb0 (sy,th)) (.jmp (.l16 nm size init (k:Int) (j:Int))) (if (((sy.take k).drop j).map (fun s=>s.1)).contains nm=true then 6 else if size < (1:Int)∨(64:Int) < size∨size < (List.length init:Int) then 5 else symsC (thsC (sy,th) th) ((sy.take k).map (fun s=>s.1)++[nm]) (sy.drop (k+1))):=by
    refine down ?_ fun j hj ihj=>?_
    ·rw[Zh]
     have:(sy.take k).drop k=[]:=List.drop_eq_nil_of_le (by rw[List.length_take];omega)
     rw[this]
     simp only[Zb0,Ze,Zo (k:=k) (by omega)]
     rw[if_neg (by simp)]
     simp only[List.map_nil,List.contains_nil,Bool.false_eq_true,if_false]
     by_cases h3:size < 1
     ·rw[if_pos (decide_eq_true h3),if_pos (.inl h3)];exact .leaf
     rw[if_neg (by simpa using h3)]
     by_cases h4:64 < size
     ·rw[if_pos (decide_eq_true h4),if_pos (.inr (.inl h4))];exact .leaf
     rw[if_neg (by simpa using h4)]
     by_cases h5:size < (List.length init:Int)
     ·rw[if_pos (show decide (Int.ofNat (List.length init) > size)=true from decide_eq_true h5),if_pos (.inr (.inr h5))];exact .leaf
     rw[if_neg (show ¬decide (Int.ofNat (List.length init) > size)=true by simpa using h5),if_neg (by rintro (h | h | h) <;> contradiction)]
     exact ih
    ·have hjs:j < sy.length:=by omega
     have hjt:j < (sy.take k).length:=by rw[List.length_take];omega
     rw[Zh,ZM hjt,List.map_cons,List.contains_cons,List.getElem_take]
     simp only[Zb0,Ze,ZK hjs,nng,Bool.and_self,if_true,Int.toNat_natCast,ZG hjs,Zo (k:=j) (by omega),Zuq]
     rw[if_pos (by simp;omega)]
     by_cases h2:sy[j].1=nm
     ·rw[if_pos h2,if_pos (by rw[h2];simp)];exact .leaf
     ·rw[if_neg h2,beq_false_of_ne (Ne.symm h2),Bool.false_or];exact ihj
   simpa using inner 0 (Nat.zero_le _)
 unfold ZpX ZbS checkC
 simp only[Ze]
 by_cases h:64 < sy.length
 ·rw[if_pos (by simp;omega),if_pos (.inl h)];exact .leaf
 rw[if_neg (by simp;omega)]
 by_cases h2:64 < th.length
 ·rw[if_pos (by simp;omega),if_pos (.inr h2)];exact .leaf
 rw[if_neg (by simp;omega),if_neg (by rintro (h | h) <;> contradiction)]
 exact main (by omega) (by omega) 0 (Nat.zero_le _)
end Go.Ev
end

section
open Go Go.Ev
namespace Go.Ev
noncomputable section
noncomputable def ZnL:Run:=entG ZfY ZnS (fun a=>Zbz a.1) (fun a=>ZbS a.1)
theorem Zq7:EntOK Go.Proofs.Tryz.prog 34 ZnL:=ZH (tb:=ZqV) (c:=Znk) ZHM (by kernel_rfl) (by kernel_rfl) (by kernel_rfl) (fun a=>by kernel_rfl) fun ⟨p,_⟩ hk=>Zm (c:=Znk) (K:=fun v=>(ZnS v,tps (toForms ZfY (p,())))) (S:=Zfc p) (by kernel_rfl) (ZGn p) (ZHj p) (ZJk p hk)
end
end Go.Ev
end

section
open Go Go.Ev
namespace Go.Ev
noncomputable section
def Zf6:Sig:=[(true,Za)]
noncomputable def ZsU:Tbl:=[(95,Zcp),(132,ZiD)]
theorem ZId:∀p∈ZsU,EntOK Go.Proofs.Tryz.prog p.1 p.2:=Zg ZcI (Zg Zj3 (Zt))
noncomputable def ZnO:Code:=Go.Proofs.Tryz.f112.body.getD .skip
def ZpS:Tb:=[]
def Zz1 (i:El Za):Empty→JT Empty ((El Zi)×Bool):=fun j=>nomatch j
def Zyl (i:El Za):JT Empty ((El Zi)×Bool):=.br (ZC i) (.br ((ZB i) !=(0:Int)) (.leaf (((0:Int),((0:Int),((0:Int),(0:Int)))),false)) (.br (decide (i.1 > (9:Int))) (.leaf (((0:Int),((0:Int),((0:Int),(0:Int)))),false)) (.br (ZF i.2.2.2.2.1) (.leaf (i.2.2.2.2.1,true)) (.br (ZF i.2.2.2.1) (.br (i.1 !=(1:Int)) (.leaf (i.2.2.2.1,true)) (.leaf (((0:Int),((0:Int),((0:Int),(0:Int)))),false))) (.leaf (((0:Int),((0:Int),((0:Int),(0:Int)))),false)))))) (.no)
def ZdH (i:El Za):(El Zi)×Bool:=bif (ZC i) then bif ((ZB i) !=(0:Int)) then (((0:Int),((0:Int),((0:Int),(0:Int)))),false) else bif (decide (i.1 > (9:Int))) then (((0:Int),((0:Int),((0:Int),(0:Int)))),false) else bif (ZF i.2.2.2.2.1) then (i.2.2.2.2.1,true) else bif (ZF i.2.2.2.1) then bif (i.1 !=(1:Int)) then (i.2.2.2.1,true) else (((0:Int),((0:Int),((0:Int),(0:Int)))),false) else (((0:Int),((0:Int),((0:Int),(0:Int)))),false) else (((0:Int),((0:Int),((0:Int),(0:Int)))),false)
def Zkt (i:El Za):Bool:=bif (ZC i) then bif ((ZB i) !=(0:Int)) then true else bif (decide (i.1 > (9:Int))) then true else bif (ZF i.2.2.2.2.1) then true else bif (ZF i.2.2.2.1) then bif (i.1 !=(1:Int)) then true else true else true else false
theorem ZLY (i:El Za) (hk:Zkt i=true):Goes (Zz1 i) (Zyl i) (ZdH i):=Goes.brk hk (fun hk=>Goes.brk hk (fun hk=>Goes.leaf) (fun hk=>Goes.brk hk (fun hk=>Goes.leaf) (fun hk=>Goes.brk hk (fun hk=>Goes.leaf) (fun hk=>Goes.brk hk (fun hk=>Goes.brk hk (fun hk=>Goes.leaf) (fun hk=>Goes.leaf)) (fun hk=>Goes.leaf))))) (fun hk=>Goes.nok hk)
def Znm:(El Zi)×Bool→AV:=fun (r:(El Zi)×Bool)=>.tu [.ag [.d (.int .i64) r.1.1,.d (.int .i64) r.1.2.1,.d (.int .i64) r.1.2.2.1,.d (.int .i64) r.1.2.2.2],.d .bool r.2]
def Zfx (i:El Za):Empty→Nat×St:=fun j=>nomatch j
theorem ZGT (i:El Za) (L:Lt):entryA Go.Proofs.Tryz.prog (clOf ZsU) ZpS Go.Proofs.Tryz.f112 ZnO L (toForms Zf6 (i,()))=(Zyl i).run (fun v=>some (Znm v,tps (toForms Zf6 (i,())))) fun j=>L (Zfx i j).1 (Zfx i j).2:=by kernel_rfl
theorem ZHH (i:El Za):∀(L:Lt) (j:Empty),procOf (procsF Go.Proofs.Tryz.prog (clOf ZsU) ZpS Go.Proofs.Tryz.f112 ZnO (toForms Zf6 (i,()))) (Zfx i j).1 L (Zfx i j).2=(Zz1 i j).run (fun v=>some (Znm v,tps (toForms Zf6 (i,())))) fun j=>L (Zfx i j).1 (Zfx i j).2:=fun L j=>nomatch j
noncomputable def ZAF:Run:=entG Zf6 Znm (fun a=>Zkt a.1) (fun a=>ZdH a.1)
theorem ZHr:EntOK Go.Proofs.Tryz.prog 112 ZAF:=ZH (tb:=ZpS) (c:=ZnO) ZId (by kernel_rfl) (by kernel_rfl) (by kernel_rfl) (fun a=>by kernel_rfl) fun ⟨i,_⟩ hk=>Zm (c:=ZnO) (K:=fun v=>(Znm v,tps (toForms Zf6 (i,())))) (S:=Zfx i) (by kernel_rfl) (ZGT i) (ZHH i) (ZLY i hk)
end
end Go.Ev
end

/- Part of the proof of: What is left of points that are enough is enough, and none of it can go; of points that are not all is left: for every input the law answers true. -/
import Derived.Shelf.Slices.In.SortNone
import Derived.Shelf.Sort.Plain
import Derived.Test.YtdbbaglblicoiaaGreatDoorCon0
set_option maxRecDepth 100000
set_option linter.unusedSectionVars false
set_option linter.unusedVariables false
set_option linter.unusedSimpArgs false
section
open Go
namespace Go.Ev
def Zaa (t:List (El Za)) (i:Int):List Int:=listOf t.length (nextB t i)
def Zev (t:List (El Za)) (i:Int):Bool:=flowOK t
theorem Zz2 {t:List (El Za)} {i:Int} (h:¬(0≤i∧i < (t.length:Int))):listOf t.length (nextB t i)=[]:=by
 unfold listOf
 rw[List.map_eq_nil_iff,List.filter_eq_nil_iff]
 intro j _ hb
 unfold nextB at hb
 rw[Bool.and_eq_true] at hb
 have:=of_decide_eq_true hb.1
 exact h ⟨this.1,this.2.1⟩
theorem ZKK (t:List (El Za)) (i:Int) (hk:Zev t i=true):Goes (ZgC t i) (Zr9 t i) (Zaa t i):=by
 have hlen:=ZbS hk
 unfold Zr9 Zaa
 rw[Ze]
 by_cases h0:i < 0
 ·rw[if_pos (decide_eq_true h0),Zz2 (fun h=>by omega)];exact .leaf
 rw[if_neg (by simpa using h0),Ze]
 obtain ⟨j,rfl⟩:=Int.eq_ofNat_of_zero_le (show 0≤i by omega)
 by_cases h1:(t.length:Int)≤(j:Int)
 ·rw[if_pos (decide_eq_true (show (j:Int)≥Int.ofNat t.length from h1)),Zz2 (fun h=>by omega)];exact .leaf
 have hj:j < t.length:=by omega
 rw[if_neg (by simp;omega),Ze,if_pos (Zas hj),Ze,Int.toNat_natCast]
 rw[←ZLI hj]
 have hmem:t.getD j (dflt Za)∈t:=by rw[ZG hj];exact List.getElem_mem hj
 have kl:ZdR (t.getD j (dflt Za))=true:=ZOj (Zpl hk hmem)
 have kf:Zjo t (t.getD j (dflt Za)).2.2.2.2.2.1=true:=Zz5 hk
 have vf:ZaX t (t.getD j (dflt Za)).2.2.2.2.2.1=findI (t.getD j (dflt Za)).2.2.2.2.2.1 t 0:=rfl
 rw[if_pos kl]
 have hw:IntKind.i64.wrap ((j:Int)+1)=(j:Int)+1:=by rw[wrap_i64 (by omega) (by omega)]
 have l14:∀(to:Int) (out:List Int) (h:Bool),out.length≤3→Goes (ZgC t (j:Int)) (.jmp (.l14 to out h)) (out++if h=true then [to] else []):=by
  intro to out h ho
  rw[Zi,ZgC,Ze]
  cases h with
  | true=>
   rw[if_pos rfl,Ze,if_pos (Nat.ble_eq_true_of_le (by unfold limit;omega)),if_pos rfl];exact .leaf
  | false=>rw[if_neg (by decide),if_neg (by decide),List.append_nil];exact .leaf
 have last:∀(out:List Int) (x:Int),out.length≤1→(decide ((0:Int)≤IntKind.i64.wrap (Int.ofNat (out++[x]).length - 1))&&decide (IntKind.i64.wrap (Int.ofNat (out++[x]).length - 1) < Int.ofNat (out++[x]).length))=true∧List.getD (out++[x]) (IntKind.i64.wrap (Int.ofNat (out++[x]).length - 1)).toNat (dflt (.int .i64))=x:=by
  intro out x ho
  have e:IntKind.i64.wrap (Int.ofNat (out++[x]).length - 1)=(out.length:Int):=by
   rw[List.length_append,List.length_singleton,wrap_i64 (by simp <;> omega) (by simp <;> omega)]
   simp
  rw[e]
  refine ⟨by simp;omega,?_⟩
  rw[Int.toNat_natCast]
  simp[List.getD]
 have l12:∀(to:Int) (h:Bool), -1≤to→(h=true→(j:Int)+1 < t.length)→Goes (ZgC t (j:Int)) (.jmp (.l12 to (if 0≤to∧to≤(j:Int) then [to] else []) h)) (nextL t.length h to (j:Int)):=by
  intro to h hto hh
  rw[Zi,ZgC]
  unfold nextL
  generalize hout:(if 0≤to∧to≤(j:Int) then [to] else [])=out
  have hol:out.length≤1:=by rw[←hout];split <;> simp
  rw[Ze]
  cases h with
  | true=>
   rw[if_pos rfl,Ze,if_pos (Nat.ble_eq_true_of_le (by unfold limit;omega)),Ze,hw]
   have hin:=hh rfl
   obtain ⟨b1,b2⟩:=last out ((j:Int)+1) hol
   rw[if_pos (show true=true∧(j:Int)+1 < (t.length:Int) from ⟨rfl,hin⟩)]
   by_cases hgt:to > (j:Int)
   ·rw[if_pos (decide_eq_true hgt),Ze,if_neg (by simp;omega),Ze,if_pos b1,b2]
    have:=l14 to (out++[(j:Int)+1]) ((j:Int)+1 !=to) (by simp;omega)
    rw[List.append_assoc] at this
    by_cases he:to=(j:Int)+1
    ·rw[if_neg (by simp[he]),List.append_nil] at this
     rw[if_neg (fun h=>h.2 ⟨rfl,hin,he⟩),List.append_nil]
     exact this
    ·rw[if_pos (by simp;omega)] at this
     rw[if_pos ⟨hgt,fun h=>he h.2.2⟩]
     exact this
   ·rw[if_neg (by simpa using hgt),if_neg (fun h=>hgt h.1),List.append_nil]
    have:=l14 to (out++[(j:Int)+1]) false (by simp;omega)
    rwa[if_neg (by decide),List.append_nil] at this
  | false=>
   rw[if_neg (by decide),Ze,if_neg (c:=false=true∧(j:Int)+1 < (t.length:Int)) (fun h=>by cases h.1),List.nil_append]
   by_cases hgt:to > (j:Int)
   ·have he:out=[]:=by rw[←hout,if_neg (fun h=>by omega)]
    subst he
    rw[if_pos (decide_eq_true hgt),Ze,if_pos (show (Int.ofNat ([]:List Int).length==0)=true from rfl),if_pos ⟨hgt,fun h=>by cases h.1⟩]
    have:=l14 to [] true (by simp)
    rwa[if_pos rfl] at this
   ·rw[if_neg (by simpa using hgt),if_neg (fun h=>hgt h.1),List.append_nil]
    have:=l14 to out false (by omega)
    rwa[if_neg (by decide),List.append_nil] at this
 have key:∀(on:Bool) (to:Int),nextL t.length (bif on then decide ((j:Int)+1 < Int.ofNat t.length) else false) to (j:Int)=nextL t.length on to (j:Int):=by
  intro on to
  cases on with
  | false=>rfl
  | true=>
   show nextL t.length (decide ((j:Int)+1 < Int.ofNat t.length)) to (j:Int)=nextL t.length true to (j:Int)
   by_cases hin:(j:Int)+1 < (t.length:Int)
   ·rw[decide_eq_true (show (j:Int)+1 < Int.ofNat t.length from hin)]
   ·rw[decide_eq_false (show ¬(j:Int)+1 < Int.ofNat t.length from hin)]
    unfold nextL
    rw[if_neg (c:=false=true∧(j:Int)+1 < (t.length:Int)) (fun h=>by cases h.1),if_neg (c:=true=true∧(j:Int)+1 < (t.length:Int)) (fun h=>hin h.2)]
    by_cases hgt:to > (j:Int)
    ·rw[if_pos (c:=to > (j:Int)∧¬(false=true∧(j:Int)+1 < (t.length:Int)∧to=(j:Int)+1)) ⟨hgt,fun h=>by cases h.1⟩,if_pos (c:=to > (j:Int)∧¬(true=true∧(j:Int)+1 < (t.length:Int)∧to=(j:Int)+1)) ⟨hgt,fun h=>hin h.2.1⟩]
    ·rw[if_neg (c:=to > (j:Int)∧¬(false=true∧(j:Int)+1 < (t.length:Int)∧to=(j:Int)+1)) (fun h=>hgt h.1),if_neg (c:=to > (j:Int)∧¬(true=true∧(j:Int)+1 < (t.length:Int)∧to=(j:Int)+1)) (fun h=>hgt h.1)]
 have both:∀(on:Bool) (to:Int) (out:List Int), -1≤to→out=(if 0≤to∧to≤(j:Int) then [to] else [])→Goes (ZgC t (j:Int)) (.br on (.jmp (.l12 to out (decide (IntKind.i64.wrap ((j:Int)+1) < Int.ofNat t.length)))) (.jmp (.l12 to out false))) (nextL t.length on to (j:Int)):=by
  intro on to out hto hout
  subst hout
  rw[Ze,←key,hw]
  cases on with
  | true=>
   rw[if_pos rfl,cond_true]
   exact l12 to _ hto fun h=>of_decide_eq_true h
  | false=>
   rw[if_neg (by decide),cond_false]
   exact l12 to _ hto fun h=>by cases h
 have hr:= @ZKP t j
 rw[Ze]
 unfold onOf
 by_cases hjmp:(ZaJ (t.getD j (dflt Za))).2=true
 ·have hto:toOf t j=findI (t.getD j (dflt Za)).2.2.2.2.2.1 t 0:=by unfold toOf;rw[if_pos hjmp]
  rw[hto] at hr
  rw[if_pos hjmp,Ze,if_pos (Zas hj),Ze,if_pos kf,Ze,vf,hto]
  generalize findI (t.getD j (dflt Za)).2.2.2.2.2.1 t 0=to at hr
  by_cases h2:to≥0
  ·rw[if_pos (decide_eq_true h2),Ze]
   by_cases h3:to≤(j:Int)
   ·rw[if_pos (decide_eq_true h3)]
    exact both _ to _ hr.1 (by rw[if_pos ⟨h2,h3⟩])
   ·rw[if_neg (by simpa using h3)]
    exact both _ to _ hr.1 (by rw[if_neg (fun h=>h3 h.2)])
  ·rw[if_neg (by simpa using h2)]
   exact both _ to _ hr.1 (by rw[if_neg (fun h=>h2 h.1)])
 ·have hto:toOf t j= -1:=by unfold toOf;rw[if_neg hjmp]
  rw[if_neg hjmp,hto]
  exact both _ (-1) _ (by omega) (by rw[if_neg (fun h=>by omega)])
end Go.Ev
end

section
open Go Go.Ev
namespace Go.Ev
noncomputable section
noncomputable def ZuS:Run:=entG Zg7 ZoB (fun a=>Zev a.1 a.2.1) (fun a=>Zaa a.1 a.2.1)
theorem ZxF:EntOK Go.Proofs.Tryz.prog 63 ZuS:=ZJ (tb:=Zr5) (c:=ZoK) ZHW (by kernel_rfl) (by kernel_rfl) (by kernel_rfl) (fun a=>by kernel_rfl) fun ⟨t,i,_⟩ hk=>Zn (c:=ZoK) (K:=fun v=>(ZoB v,tps (toForms Zg7 (t,i,())))) (S:=Zgx t i) (by kernel_rfl) (ZJG t i) (ZHr t i) (ZKK t i hk)
end
end Go.Ev
end

section
open Go Go.Ev
namespace Go.Ev
noncomputable section
noncomputable def Zrc:Tbl:=[]
theorem Zzc:∀p∈Zrc,EntOK Go.Proofs.Tryz.prog p.1 p.2:=Zu
noncomputable def ZAe:Code:=Go.Proofs.Tryz.f65.body.getD .skip
noncomputable def ZlG:Run:=entE Go.Proofs.Tryz.prog Zrc Go.Proofs.Tryz.f65 ZAe
theorem ZqR:EntOK Go.Proofs.Tryz.prog 65 ZlG:=ZJQ Zzc (by kernel_rfl) (by kernel_rfl) (by kernel_rfl) (fun xs=>by kernel_rfl)
end
end Go.Ev
end

section
open Go Go.Ev
namespace Go.Ev
noncomputable section
def Zlo:PSig:=[.obj 103 [(.d (.int .i64)),(.m (.int .i64) (.int .u64))],.dat false (.int .i64)]
noncomputable def ZnK:Tbl:=[(65,ZlG)]
theorem ZzT:∀p∈ZnK,EntOK Go.Proofs.Tryz.prog p.1 p.2:=Zg ZqR (Zu)
noncomputable def Zgj:Code:=Go.Proofs.Tryz.f46.body.getD .skip
def Zk9:Tb:=[]
def Zt1 (s:Int×List (Int×Int)) (i:Int):Empty→JT Empty (Bool×Int×List (Int×Int)):=fun j=>nomatch j
def ZkW (s:Int×List (Int×Int)) (i:Int):JT Empty (Bool×Int×List (Int×Int)):=.br (decide (i≥(0:Int))) (.br (decide (i < s.1)) (.br (decide ((IntKind.u64.wrap (Int.tmod i (64:Int))) < (0:Int))) (.no) (.leaf (((bitAnd IntKind.u64 (Int.fdiv (Option.getD (mget (kt:=(.int .i64)) (IntKind.i64.wrap (Int.tdiv i (64:Int))) s.2) (0:Int)) (2 ^ (min (Int.toNat (IntKind.u64.wrap (Int.tmod i (64:Int)))) (IntKind.u64).bits))) (1:Int))==(1:Int)),s))) (.leaf (false,s))) (.leaf (false,s))
def Zga:Bool×Int×List (Int×Int)→Ans:=fun (r:Bool×Int×List (Int×Int))=>(.d .bool r.1,[.bx 103 [.d (.int .i64) r.2.1,.mv (.int .i64) (.int .u64) r.2.2],.top])
def Zc6 (s:Int×List (Int×Int)) (i:Int):Empty→Nat×St:=fun j=>nomatch j
theorem ZAa (s:Int×List (Int×Int)) (i:Int) (L:Lt):entryA Go.Proofs.Tryz.prog (clOf ZnK) Zk9 Go.Proofs.Tryz.f46 Zgj L (toPs Zlo (s,i,()))=(ZkW s i).run (fun v=>some (Zga v)) fun j=>L (Zc6 s i j).1 (Zc6 s i j).2:=by kernel_rfl
theorem ZA2 (s:Int×List (Int×Int)) (i:Int):∀(L:Lt) (j:Empty),procOf (procsF Go.Proofs.Tryz.prog (clOf ZnK) Zk9 Go.Proofs.Tryz.f46 Zgj (toPs Zlo (s,i,()))) (Zc6 s i j).1 L (Zc6 s i j).2=(Zt1 s i j).run (fun v=>some (Zga v)) fun j=>L (Zc6 s i j).1 (Zc6 s i j).2:=fun L j=>nomatch j
end
end Go.Ev
end

section
open Go
namespace Go.Ev
def Zp (s:Int×List (Int×Int)) (i:Int):Bool×Int×List (Int×Int):=(hasS s i,s)
theorem ZBt (s:Int×List (Int×Int)) (i:Int):Goes (Zt1 s i) (ZkW s i) (Zp s i):=by
 unfold ZkW Zp hasS
 rw[Ze]
 by_cases h0:i≥0
 ·rw[if_pos (decide_eq_true h0),Ze,decide_eq_true h0,Bool.true_and]
  by_cases h1:i < s.1
  ·rw[if_pos (decide_eq_true h1),Ze,if_neg (by rw[Zya];decide),decide_eq_true h1,Bool.true_and]
   exact .leaf
  ·rw[if_neg (by simpa using h1),decide_eq_false h1,Bool.false_and]
   exact .leaf
 ·rw[if_neg (by simpa using h0),decide_eq_false h0,Bool.false_and]
  exact .leaf
end Go.Ev
end

section
open Go Go.Ev
namespace Go.Ev
noncomputable section
noncomputable def Zf6:Run:=entO Zlo Zga (fun a=>true) (fun a=>Zp a.1 a.2.1)
theorem ZeN:EntOK Go.Proofs.Tryz.prog 46 Zf6:=ZKO (tb:=Zk9) (c:=Zgj) (Zoz (ZiT (fn:=Go.Proofs.Tryz.f46) (c:=Zgj) (by kernel_rfl) (by kernel_rfl) (by kernel_rfl))) ZzT (by kernel_rfl) (by kernel_rfl) (fun a=>by kernel_rfl) fun ⟨s,i,_⟩ hk=>Zn (c:=Zgj) (K:=Zga) (S:=Zc6 s i) (by kernel_rfl) (ZAa s i) (ZA2 s i) (ZBt s i)
end
end Go.Ev
end

section
open Go Go.Ev
namespace Go.Ev
noncomputable section
def Zlq:PSig:=[.obj 103 [(.d (.int .i64)),(.m (.int .i64) (.int .u64))],.dat false (.int .i64)]
noncomputable def ZnX:Tbl:=[(65,ZlG),(46,Zf6)]
theorem ZzS:∀p∈ZnX,EntOK Go.Proofs.Tryz.prog p.1 p.2:=Zg ZqR (Zg ZeN (Zu))
noncomputable def Zgc:Code:=Go.Proofs.Tryz.f45.body.getD .skip
def ZkY:Tb:=[]
def ZtC (s:Int×List (Int×Int)) (i:Int):Empty→JT Empty (Bool×Int×List (Int×Int)):=fun j=>nomatch j
def Zlr (s:Int×List (Int×Int)) (i:Int):JT Empty (Bool×Int×List (Int×Int)):=.br (decide (i < (0:Int))) (.leaf (false,s)) (.br (decide (i≥s.1)) (.leaf (false,s)) (.br (Zp s i).1 (.leaf (false,(Zp s i).2)) (.br (decide ((IntKind.u64.wrap (Int.tmod i (64:Int))) < (0:Int))) (.no) (.leaf (true,((Zp s i).2.1,(mput (kt:=(.int .i64)) (IntKind.i64.wrap (Int.tdiv i (64:Int))) (bitOr IntKind.u64 (Option.getD (mget (kt:=(.int .i64)) (IntKind.i64.wrap (Int.tdiv i (64:Int))) (Zp s i).2.2) (0:Int)) (IntKind.u64.wrap ((1:Int)*(2 ^ (min (Int.toNat (IntKind.u64.wrap (Int.tmod i (64:Int)))) (IntKind.u64).bits))))) (Zp s i).2.2)))))))
def Zgg:Bool×Int×List (Int×Int)→Ans:=fun (r:Bool×Int×List (Int×Int))=>(.d .bool r.1,[.bx 103 [.d (.int .i64) r.2.1,.mv (.int .i64) (.int .u64) r.2.2],.top])
def Zc3 (s:Int×List (Int×Int)) (i:Int):Empty→Nat×St:=fun j=>nomatch j
theorem Zz6 (s:Int×List (Int×Int)) (i:Int) (L:Lt):entryA Go.Proofs.Tryz.prog (clOf ZnX) ZkY Go.Proofs.Tryz.f45 Zgc L (toPs Zlq (s,i,()))=(Zlr s i).run (fun v=>some (Zgg v)) fun j=>L (Zc3 s i j).1 (Zc3 s i j).2:=by kernel_rfl
theorem ZA8 (s:Int×List (Int×Int)) (i:Int):∀(L:Lt) (j:Empty),procOf (procsF Go.Proofs.Tryz.prog (clOf ZnX) ZkY Go.Proofs.Tryz.f45 Zgc (toPs Zlq (s,i,()))) (Zc3 s i j).1 L (Zc3 s i j).2=(ZtC s i j).run (fun v=>some (Zgg v)) fun j=>L (Zc3 s i j).1 (Zc3 s i j).2:=fun L j=>nomatch j
end
end Go.Ev
end

section
open Go
namespace Go.Ev
def Zq (s:Int×List (Int×Int)) (i:Int):Bool×Int×List (Int×Int):=putS s i
theorem ZBx (s:Int×List (Int×Int)) (i:Int):Goes (ZtC s i) (Zlr s i) (Zq s i):=by
 unfold Zlr Zq putS
 simp only[Zp]
 rw[Ze]
 by_cases h0:i < 0
 ·rw[if_pos (decide_eq_true h0),if_pos (.inl h0)];exact .leaf
 ·rw[if_neg (by simpa using h0),Ze]
  by_cases h1:i≥s.1
  ·rw[if_pos (decide_eq_true h1),if_pos (.inr (.inl h1))];exact .leaf
  ·rw[if_neg (by simpa using h1),Ze]
   by_cases h2:hasS s i=true
   ·rw[if_pos h2,if_pos (.inr (.inr h2))];exact .leaf
   ·rw[if_neg h2,Ze,if_neg (by rw[Zya];decide),if_neg (by intro h;rcases h with h | h | h <;> first | exact h0 h | exact h1 h | exact h2 h)]
    exact .leaf
end Go.Ev
end

section
open Go Go.Ev
namespace Go.Ev
noncomputable section
noncomputable def ZcY:Run:=entO Zlq Zgg (fun a=>true) (fun a=>Zq a.1 a.2.1)
theorem Zcc:EntOK Go.Proofs.Tryz.prog 45 ZcY:=ZKO (tb:=ZkY) (c:=Zgc) (Zoz (ZiT (fn:=Go.Proofs.Tryz.f45) (c:=Zgc) (by kernel_rfl) (by kernel_rfl) (by kernel_rfl))) ZzS (by kernel_rfl) (by kernel_rfl) (fun a=>by kernel_rfl) fun ⟨s,i,_⟩ hk=>Zn (c:=Zgc) (K:=Zgg) (S:=Zc3 s i) (by kernel_rfl) (Zz6 s i) (ZA8 s i) (ZBx s i)
end
end Go.Ev
end

section
open Go Go.Ev
namespace Go.Ev
noncomputable section
def Zer:PSig:=[.obj 103 [(.d (.int .i64)),(.m (.int .i64) (.int .u64))]]
noncomputable def Zok:Tbl:=[]
noncomputable def ZiA:Code:=match Go.Proofs.Tryz.f64.body with | some (.seq _ (.seq _ (.seq _ (.seq _ (.seq _ d)))))=>d | _=>.skip
def Zbn:Tb:=[(2,⟨[0,4,26,27,28],[(5,46)]⟩),(8,⟨[0,4,7,8,26,27,28],[(5,46)]⟩)]
inductive Zdm where | l2 (h:Int) (h1:List Int) (h2:Int) (out:List Int) | l8 (k:Int) (h:Int) (h1:List Int) (i:Int) (out:List Int) (h2:Int)
def ZaR (s:Int×List (Int×Int)) (places:List Int):Zdm→JT Zdm ((List Int)×Int×List (Int×Int)) |.l2 h h1 h2 out=>.br (decide (h2 < h)) (.br ((decide ((0:Int)≤h2))&&(decide (h2 < (Int.ofNat (List.length h1))))) (.jmp (.l8 (List.getD h1 (Int.toNat h2) (dflt (.int .i64))) h h1 (0:Int) out h2)) (.no)) (.leaf (out,s)) |.l8 k h h1 i out h2=>.br (decide (i < (64:Int))) (.br (decide ((IntKind.u64.wrap i) < (0:Int))) (.no) (.br ((bitAnd IntKind.u64 (Int.fdiv (Option.getD (mget (kt:=(.int .i64)) k s.2) (0:Int)) (2 ^ (min (Int.toNat (IntKind.u64.wrap i)) (IntKind.u64).bits))) (1:Int))==(1:Int)) (.br (Nat.ble (((List.length out)+1)*8) limit) (.jmp (.l8 k h h1 (IntKind.i64.wrap (i+(1:Int))) (out++[(IntKind.i64.wrap ((IntKind.i64.wrap (k*(64:Int)))+i))]) h2)) (.no)) (.jmp (.l8 k h h1 (IntKind.i64.wrap (i+(1:Int))) out h2)))) (.jmp (.l2 h h1 (IntKind.i64.wrap (h2+(1:Int))) out))
def ZhL (s:Int×List (Int×Int)) (places:List Int):JT Zdm ((List Int)×Int×List (Int×Int)):=.jmp (.l2 (Int.ofNat (List.length places)) places (0:Int) [])
def ZiG:(List Int)×Int×List (Int×Int)→Ans:=fun (r:(List Int)×Int×List (Int×Int))=>(.rw 3 (.int .i64) r.1,[.bx 103 [.d (.int .i64) r.2.1,.mv (.int .i64) (.int .u64) r.2.2]])
def Zb8 (s:Int×List (Int×Int)) (places:List Int):Zdm→Nat×St |.l2 h h1 h2 out=>(2,⟨mkTm 56 [(0,.pt 1 0 0),(4,.own 5 0 none),(26,.own 27 0 none),(27,.d (.int .i64) h),(28,.d (.int .i64) h2)],[(1,0,.box 103 [.d (.int .i64) s.1,.mp 1026 0] (some 0)),(5,0,.row 3 (.int .i64) out false),(27,0,.row 3 (.int .i64) h1 false),(1026,0,.map (.int .i64) (.int .u64) s.2)]⟩) |.l8 k h h1 i out h2=>(8,⟨mkTm 56 [(0,.pt 1 0 0),(4,.own 5 0 none),(7,.d (.int .i64) k),(8,.d (.int .i64) i),(26,.own 27 0 none),(27,.d (.int .i64) h),(28,.d (.int .i64) h2)],[(1,0,.box 103 [.d (.int .i64) s.1,.mp 1026 0] (some 0)),(5,0,.row 3 (.int .i64) out false),(27,0,.row 3 (.int .i64) h1 false),(1026,0,.map (.int .i64) (.int .u64) s.2)]⟩)
def Zes (s:Int×List (Int×Int)) (places:List Int):St:=⟨mkTm 56 [(0,.pt 1 0 0),(3,.own 4 0 none),(4,.nil)],[(1,0,.box 103 [.d (.int .i64) s.1,.mp 1026 0] (some 0)),(4,0,.row 3 (.int .i64) places false),(1026,0,.map (.int .i64) (.int .u64) s.2)]⟩
theorem Zwl (s:Int×List (Int×Int)) (places:List Int) (L:Lt):evC Go.Proofs.Tryz.prog (clOf Zok) Zbn L ZiA 0 (finA Go.Proofs.Tryz.prog Zbn Go.Proofs.Tryz.f64 (toPs Zer (s,()))) (fun _ _=>none) (finA Go.Proofs.Tryz.prog Zbn Go.Proofs.Tryz.f64 (toPs Zer (s,()))) (Zes s places)=(ZhL s places).run (fun v=>some (ZiG v)) fun j=>L (Zb8 s places j).1 (Zb8 s places j).2:=by kernel_rfl
noncomputable def Zmm (s:Int×List (Int×Int)) (places:List Int):List (Nat×(Lt→Kt)):=procs Go.Proofs.Tryz.prog (clOf Zok) Zbn ZiA 0 (fun _=>(finA Go.Proofs.Tryz.prog Zbn Go.Proofs.Tryz.f64 (toPs Zer (s,())))) (fun _ _ _=>none) (fun _=>(finA Go.Proofs.Tryz.prog Zbn Go.Proofs.Tryz.f64 (toPs Zer (s,()))))
theorem ZvM (s:Int×List (Int×Int)) (places:List Int):∀(L:Lt) (j:Zdm),procOf (Zmm s places) (Zb8 s places j).1 L (Zb8 s places j).2=(ZaR s places j).run (fun v=>some (ZiG v)) fun j=>L (Zb8 s places j).1 (Zb8 s places j).2 | L,.l2 h h1 h2 out=>by kernel_rfl | L,.l8 k h h1 i out h2=>by kernel_rfl
end
end Go.Ev
end

section
open Go
namespace Go.Ev
theorem Zw2 (s:Int×List (Int×Int)) (places:List Int) (hk:Nat.ble (places.length*512) limit=true):Goes (ZaR s places) (ZhL s places) (listAt s.2 places,s):=by
 have hlim:places.length*512≤limit:=Nat.le_of_ble_eq_true hk
 have hn:places.length < 4611686018427387904:=by unfold limit at hlim;omega
 have inner:∀(k:Int) (j:Nat),j < places.length→∀(i:Nat),i≤64→∀(out:List Int) r,(out.length+(64 - i))*8≤limit→
   Goes (ZaR s places) (.jmp (.l2 (Int.ofNat (List.length places)) places ((j+1:Nat):Int) (out++wordList s.2 k i (64 - i)))) r→
   Goes (ZaR s places) (.jmp (.l8 k (Int.ofNat (List.length places)) places (i:Int) out (j:Int))) r:=by
  intro k j hj
  refine down ?_ fun i hi ih=>?_
  ·intro out r _ h
   rw[Zi]
   have e:decide (((64:Nat):Int) < (64:Int))=false:=by decide
   simp only[ZaR,Ze,e,Bool.false_eq_true,if_false,Zs (k:=j) (by omega)]
   simpa[wordList] using h
  ·intro out r hl h
   rw[Zi]
   have e:decide ((i:Int) < (64:Int))=true:=decide_eq_true (by omega)
   have hw:=Zva hi
   have e2:decide ((i:Int) < (0:Int))=false:=decide_eq_false (by omega)
   have hcons:wordList s.2 k i (64 - i)=(if bitE (wordAt s.2 k) (i:Nat) then [numE k (i:Nat)] else [])++wordList s.2 k (i+1) (64 - (i+1)):=by
    unfold wordList
    rw[show 64 - i=(64 - (i+1))+1 by omega,List.range'_succ,List.filter_cons]
    split <;> simp
   rw[hcons] at h
   have hb:((bitAnd IntKind.u64 (Int.fdiv (Option.getD (mget (kt:=(.int .i64)) k s.2) (0:Int)) (2 ^ (min (Int.toNat (IntKind.u64.wrap (i:Int))) (IntKind.u64).bits))) (1:Int))==(1:Int))=bitE (wordAt s.2 k) (i:Nat):=rfl
   unfold ZaR
   rw[Ze,if_pos e,Ze,if_neg (by rw[hw,e2];decide),Ze,hb,Zs (k:=i) (by omega)]
   by_cases hbit:bitE (wordAt s.2 k) (i:Nat)=true
   ·rw[if_pos hbit]
    rw[if_pos hbit] at h
    rw[Ze,if_pos (Nat.ble_eq_true_of_le (by omega))]
    refine ih (out++[numE k (i:Nat)]) r (by simp;omega) ?_
    simpa using h
   ·rw[if_neg hbit]
    rw[if_neg hbit,List.nil_append] at h
    exact ih out r (by omega) h
 have outer:∀j,j≤places.length→∀out:List Int,(out.length+(places.length - j)*64)*8≤limit→
   Goes (ZaR s places) (.jmp (.l2 (Int.ofNat (List.length places)) places (j:Int) out)) (out++listAt s.2 (places.drop j),s):=by
  refine down ?_ fun j hj ih=>?_
  ·intro out _
   rw[Zi]
   simp only[ZaR,Ze,Zw (Nat.lt_irrefl _),List.drop_length,Bool.false_eq_true,if_false]
   rw[show out++listAt s.2 []=out by simp[listAt]]
   exact .leaf
  ·intro out hl
   rw[Zi,ZN hj]
   simp only[ZaR,Ze,ZQ hj,nng,Bool.and_self,if_true,Int.toNat_natCast,ZG hj]
   have hwl:=ZzC s.2 places[j] 0 64
   refine inner places[j] j hj 0 (by omega) out _ (by omega) ?_
   have:=ih (out++wordList s.2 places[j] 0 64) (by rw[List.length_append];omega)
   rw[show out++listAt s.2 (places[j] :: places.drop (j+1))=(out++wordList s.2 places[j] 0 64)++listAt s.2 (places.drop (j+1)) by simp only[listAt,List.flatMap_cons,List.append_assoc]]
   exact this
 have:=outer 0 (Nat.zero_le _) [] (by simp;omega)
 simpa[ZhL] using this
end Go.Ev
end

section
open Go Go.Ev
namespace Go.Ev
def renSort:Go.Shelf.Ren:=⟨fun n=>if n=189 then 54 else if n=125 then 80 else if n=257 then 79 else if n=128 then 116 else if n=129 then 117 else if n=294 then 108 else if n=295 then 109 else if n=296 then 110 else if n=297 then 111 else if n=298 then 112 else if n=299 then 113 else if n=216 then 82 else if n=300 then 114 else if n=301 then 115 else if n=328 then 131 else if n=329 then 132 else if n=330 then 133 else if n=331 then 134 else if n=332 then 135 else if n=215 then 118 else if n=343 then 147 else n,
 fun n=>if n=28 then 23 else if n=46 then 107 else if n=51 then 141 else if n=53 then 106 else if n=183 then 135 else if n=182 then 134 else if n=131 then 93 else if n=218 then 157 else if n=222 then 161 else if n=228 then 173 else if n=229 then 146 else n,
 fun n=>n⟩
theorem Zx5:Go.Proofs.Lays.n189 Go.Proofs.Tryz.prog renSort where
 mixed:=by kernel_rfl
 f125:=by kernel_rfl
 f128:=by kernel_rfl
 f129:=by kernel_rfl
 f189:=by kernel_rfl
 f215:=by kernel_rfl
 f216:=by kernel_rfl
 f257:=by kernel_rfl
 f294:=by kernel_rfl
 f295:=by kernel_rfl
 f296:=by kernel_rfl
 f297:=by kernel_rfl
 f298:=by kernel_rfl
 f299:=by kernel_rfl
 f300:=by kernel_rfl
 f301:=by kernel_rfl
 f328:=by kernel_rfl
 f329:=by kernel_rfl
 f330:=by kernel_rfl
 f331:=by kernel_rfl
 f332:=by kernel_rfl
 f343:=by kernel_rfl
 t0:=by kernel_rfl
 a0:=fun w=>by kernel_rfl
 z0:=fun w=>by kernel_rfl
 v0:=fun w=>by kernel_rfl
 t3:=by kernel_rfl
 a3:=fun w=>by kernel_rfl
 z3:=fun w=>by kernel_rfl
 v3:=fun w=>by kernel_rfl
 t4:=by kernel_rfl
 a4:=fun w=>by kernel_rfl
 z4:=fun w=>by kernel_rfl
 v4:=fun w=>by kernel_rfl
 t5:=by kernel_rfl
 a5:=fun w=>by kernel_rfl
 z5:=fun w=>by kernel_rfl
 v5:=fun w=>by kernel_rfl
 t9:=by kernel_rfl
 a9:=fun w=>by kernel_rfl
 z9:=fun w=>by kernel_rfl
 v9:=fun w=>by kernel_rfl
 t28:=by kernel_rfl
 a28:=fun w=>by kernel_rfl
 z28:=fun w=>by kernel_rfl
 v28:=fun w=>by kernel_rfl
 t46:=by kernel_rfl
 a46:=fun w=>by kernel_rfl
 z46:=fun w=>by kernel_rfl
 v46:=fun w=>by kernel_rfl
 t51:=by kernel_rfl
 a51:=fun w=>by kernel_rfl
 z51:=fun w=>by kernel_rfl
 v51:=fun w=>by kernel_rfl
 t53:=by kernel_rfl
 a53:=fun w=>by kernel_rfl
 z53:=fun w=>by kernel_rfl
 v53:=fun w=>by kernel_rfl
 t131:=by kernel_rfl
 a131:=fun w=>by kernel_rfl
 z131:=fun w=>by kernel_rfl
 v131:=fun w=>by kernel_rfl
 t182:=by kernel_rfl
 a182:=fun w=>by kernel_rfl
 z182:=fun w=>by kernel_rfl
 v182:=fun w=>by kernel_rfl
 t183:=by kernel_rfl
 a183:=fun w=>by kernel_rfl
 z183:=fun w=>by kernel_rfl
 v183:=fun w=>by kernel_rfl
 t218:=by kernel_rfl
 a218:=fun w=>by kernel_rfl
 z218:=fun w=>by kernel_rfl
 v218:=fun w=>by kernel_rfl
 t222:=by kernel_rfl
 a222:=fun w=>by kernel_rfl
 z222:=fun w=>by kernel_rfl
 v222:=fun w=>by kernel_rfl
 t228:=by kernel_rfl
 a228:=fun w=>by kernel_rfl
 z228:=fun w=>by kernel_rfl
 v228:=fun w=>by kernel_rfl
 t229:=by kernel_rfl
 a229:=fun w=>by kernel_rfl
 z229:=fun w=>by kernel_rfl
 v229:=fun w=>by kernel_rfl
theorem sortOK:SortOK Go.Proofs.Tryz.prog 54:=⟨fun blk off cap zs w h1 h2 h3=>Go.Proofs.Any.slices_Sort_int Zx5 blk off cap zs w h1 h2 h3,fun p cap w=>Go.Proofs.Any.slices_Sort_int_none Zx5 p cap w⟩
end Go.Ev
end

section
open Go Go.Ev
namespace Go.Ev
def ZqX:PSig:=[.obj 103 [(.d (.int .i64)),(.m (.int .i64) (.int .u64))]]
def ZbJ (s:Int×List (Int×Int)):(List Int)×Int×List (Int×Int):=(listS s,s)
def Zbk (s:Int×List (Int×Int)):Bool:=Nat.ble (s.2.length*512) limit
def Zrx:(List Int)×Int×List (Int×Int)→Ans:=ZiG
section
abbrev SetL:=List (El (.int .i64)×El (.int .u64))
noncomputable def setListBody:Code:=Go.Proofs.Tryz.f64.body.getD .skip
noncomputable def setListR:Code:=fstC (sndC (sndC (sndC setListBody)))
noncomputable def setListX:RangeText:=rangeText (sndC setListR)
noncomputable def setListSort:Code:=fstC (sndC (sndC (sndC (sndC setListBody))))
def setLab1:Lab:=⟨[0,3,4],[]⟩
def setLab2:Lab:=⟨[0,3,4,15],[(4,46)]⟩
def setObs (s:Int×SetL) (ps:List (El (.int .i64))):List (Id×Nat×Obj):=[(1,0,.box 103 [.d (.int .i64) s.1,.mp 1026 0] (some 0)),(4,0,.row 3 (.int .i64) ps false),(1026,0,.gone (some 1000))]
def setK (s:Int×SetL) (v:Value) (ps:List (El (.int .i64))):St:=⟨mkTm 56 [(0,.pt 1 0 0),(3,.own 4 0 none),(4,.nil),(15,.cst v)],setObs s ps⟩
def setI (s:Int×SetL) (v:Value) (done:SetL):St:=setK s v (done.map Prod.fst)
def setT (s:Int×SetL) (v:Value) (done:SetL) (e:El (.int .i64)×El (.int .u64)):St:=((setI s v done).put (some 16) (.tu [mkB true,.d (.int .i64) e.1,.d (.int .u64) e.2])).put (some 17) (mkB true)
def setU (s:Int×SetL) (v:Value) (done:SetL) (e:El (.int .i64)×El (.int .u64)):St:=(((setT s v done e).put (some 18) (.tu [.d (.int .i64) e.1,.d (.int .u64) e.2])).put (some 19) (.d (.int .i64) e.1)).put (some 5) (.d (.int .i64) e.1)
def setE (s:Int×SetL) (v:Value) (done:SetL):St:=((setI s v done).put (some 16) (.tu [mkB false])).put (some 17) (mkB false)
def setA (s:Int×SetL):St:=⟨mkTm 56 [(0,.pt 1 0 0)],[(1,0,.box 103 [.d (.int .i64) s.1,.mp 1026 0] (some 0)),(1026,0,.map (.int .i64) (.int .u64) s.2)]⟩
def setC (s:Int×SetL):St:=⟨mkTm 56 [(0,.pt 1 0 0),(3,.nil),(4,.nil)],[(1,0,.box 103 [.d (.int .i64) s.1,.mp 1026 0] (some 0)),(1026,0,.map (.int .i64) (.int .u64) s.2)]⟩
def setM (s:Int×SetL):St:=((((setC s).put (some 11) (.pt 1 0 0)).put (some 12) (.pt 1 0 0)).put (some 13) (.pt 1 0 1)).put (some 14) (.mp 1026 0)
theorem ZK5:setListX.OK:=⟨by kernel_rfl,by kernel_rfl,by kernel_rfl,by kernel_rfl,by kernel_rfl,by kernel_rfl,by kernel_rfl,by kernel_rfl,by kernel_rfl⟩
theorem ZFk (s:Int×SetL) (v:Value) (done:SetL) (e:El (.int .i64)×El (.int .u64)) (L:Lt) (k:Kt) (x:Nat→Kt) (r:Kt):
  evC Go.Proofs.Tryz.prog (clOf []) [] L setListX.cr 0 (fun t=>k (norm Go.Proofs.Tryz.prog setLab2 t)) x r (setU s v done e)=bif Nat.ble (((done.map Prod.fst).length+1)*8) limit then k (setK s v (done.map Prod.fst++[e.1])) else none:=by kernel_rfl
theorem ZMr (s:Int×SetL) (hk:Zbk s=true):RangeEv Go.Proofs.Tryz.prog (clOf []) setListX s.2 setLab2 1026 1000 (setI s) (setE s) (setT s) (setU s) where
 it:=fun v done=>by kernel_rfl
 r1:=fun v done e k=>by kernel_rfl
 rt:=fun v done e=>by kernel_rfl
 re:=fun v done e=>by kernel_rfl
 r2:=fun v done e k=>by kernel_rfl
 r3:=fun v done e rest hp L k x r=>by
  have hl:=hp.length_eq
  simp only[List.length_append,List.length_cons] at hl
  have hlim:s.2.length*512≤limit:=Nat.le_of_ble_eq_true hk
  rw[ZFk,List.length_map,Nat.ble_eq_true_of_le (by omega),cond_true]
  unfold setI
  rw[List.map_append]
  rfl
 f1:=fun v done k=>by kernel_rfl
 ft:=fun v done=>by kernel_rfl
theorem ZIh:setListBody=.seq (fstC setListBody) (.seq (fstC (sndC setListBody)) (.seq (fstC (sndC (sndC setListBody))) (.seq (.seq (.region (ridC (fstC setListR)) (ropsC (fstC setListR)) false) setListX.code) (.seq (.region (ridC setListSort) (ropsC setListSort) false) ZiA)))):=by kernel_rfl
theorem ZOh (s:Int×SetL) (L:Lt) (k:Kt) (x:Nat→Kt) (r:Kt):evC Go.Proofs.Tryz.prog (clOf []) [] L (fstC setListBody) 0 (fun t=>k (norm Go.Proofs.Tryz.prog setLab1 t)) x r (setA s)=k (setA s):=by kernel_rfl
theorem ZN3 (s:Int×SetL) (L:Lt) (k:Kt) (x:Nat→Kt) (r:Kt):evC Go.Proofs.Tryz.prog (clOf []) [] L (fstC (sndC setListBody)) 0 (fun t=>k (norm Go.Proofs.Tryz.prog setLab1 t)) x r (setA s)=k (setA s):=by kernel_rfl
theorem ZMV (s:Int×SetL) (L:Lt) (k:Kt) (x:Nat→Kt) (r:Kt):evC Go.Proofs.Tryz.prog (clOf []) [] L (fstC (sndC (sndC setListBody))) 0 (fun t=>k (norm Go.Proofs.Tryz.prog setLab1 t)) x r (setA s)=k (setC s):=by kernel_rfl
def mapKV (P:Program) (T:TypeId):TypeId×TypeId:=match P.underlying T with | some (.map K V)=>(K,V) | _=>(0,0)
theorem Ztt (s:Int×SetL) (hk:Zbk s=true):CallOK Go.Proofs.Tryz.prog 64 (toPs ZqX (s,())) (Zrx (ZbJ s)):=by
 obtain ⟨hcl,hdet⟩:=ZqL (P:=Go.Proofs.Tryz.prog) Zu
 have hlim:s.2.length*512≤limit:=Nat.le_of_ble_eq_true hk
 refine ZmF (tb:=Zbn) (fn:=Go.Proofs.Tryz.f64) (c:=setListBody) (vs:=[.pt 1 0 0]) (st:=⟨[],[(1,0,.box 103 [.d (.int .i64) s.1,.mp 1026 0] (some 0)),(1026,0,.map (.int .i64) (.int .u64) s.2)]⟩) (by kernel_rfl) (by kernel_rfl) (by kernel_rfl) ?_
 intro _ Mod F0 w0 a w hr
 have hr:Rel Mod F0 w0 (setA s) a w:=hr
 rw[ZIh]
 refine wp_seq (piece hcl hdet (norm Go.Proofs.Tryz.prog setLab1) (fun h=>Z1 h) (ZOh s) hr fun a w hr=>?_)
 refine wp_seq (piece hcl hdet (norm Go.Proofs.Tryz.prog setLab1) (fun h=>Z1 h) (ZN3 s) hr fun a w hr=>?_)
 refine wp_seq (piece hcl hdet (norm Go.Proofs.Tryz.prog setLab1) (fun h=>Z1 h) (ZMV s) hr fun a w hr=>?_)
 refine wp_seq (wp_seq (wp_region ?_))
 rw[show List.range (ropsC (fstC setListR)).size=[0,1,2,3,4] from by kernel_rfl]
 refine evOp hcl (o:=opC (fstC setListR) 0) (st1:=(setC s).put (some 11) (.pt 1 0 0)) (by kernel_rfl) (by kernel_rfl) (fun k=>by kernel_rfl) hr fun a w hr=>?_
 refine evOp hcl (o:=opC (fstC setListR) 1) (st1:=((setC s).put (some 11) (.pt 1 0 0)).put (some 12) (.pt 1 0 0)) (by kernel_rfl) (by kernel_rfl) (fun k=>by kernel_rfl) hr fun a w hr=>?_
 refine evOp hcl (o:=opC (fstC setListR) 2) (st1:=(((setC s).put (some 11) (.pt 1 0 0)).put (some 12) (.pt 1 0 0)).put (some 13) (.pt 1 0 1)) (by kernel_rfl) (by kernel_rfl) (fun k=>by kernel_rfl) hr fun a w hr=>?_
 refine evOp hcl (o:=opC (fstC setListR) 3) (st1:=setM s) (by kernel_rfl) (by kernel_rfl) (fun k=>by kernel_rfl) hr fun a w hr=>?_
 refine handOp (o:=opC (fstC setListR) 4) (by kernel_rfl) (by kernel_rfl) ?_
 refine rangeLoop (tm:=14) (idm0:=1026) (ver0:=0) (T:=(match (opC (fstC setListR) 4).op with |.range T _=>T | _=>0)) (K:=(mapKV Go.Proofs.Tryz.prog (match (opC (fstC setListR) 4).op with |.range T _=>T | _=>0)).1) (V:=(mapKV Go.Proofs.Tryz.prog (match (opC (fstC setListR) 4).op with |.range T _=>T | _=>0)).2)
  hcl hdet ZK5 rfl rfl (ZMr s hk) (by kernel_rfl) (by kernel_rfl) (by kernel_rfl) (by kernel_rfl) (by kernel_rfl) (by kernel_rfl) (fun v=>by kernel_rfl) (fun v done=>by kernel_rfl) (fun v done=>by kernel_rfl) hr ?_
 intro v done a w hperm hr
 have hr:Rel Mod F0 w0 (Zes s (done.map Prod.fst)) a w:=Z1 (P:=Go.Proofs.Tryz.prog) (lab:=setLab1) hr
 refine wp_seq (wp_region ?_)
 rw[show List.range (ropsC setListSort).size=[0,1] from by kernel_rfl]
 refine evOp hcl (o:=opC setListSort 0) (st1:=(Zes s (done.map Prod.fst)).put (some 24) (.own 4 0 none)) (by kernel_rfl) (by kernel_rfl) (fun k=>by kernel_rfl) hr fun a w hr=>?_
 refine handOp (o:=opC setListSort 1) (by kernel_rfl) (by kernel_rfl) ?_
 refine sortStep (ts:=24) (id:=4) (ver:=0) (E:=3) (l:=done.map Prod.fst) (c:=(match (opC setListSort 1).op with |.call c=>c | _=>default)) (fn:=Go.Proofs.Tryz.f54) (body:=Go.Proofs.Tryz.f54.body.getD .skip) (by kernel_rfl) (by kernel_rfl) (by kernel_rfl) (by kernel_rfl) (by kernel_rfl) (by kernel_rfl) (by kernel_rfl) (by kernel_rfl) sortOK (by
  rw[List.length_map,hperm.length_eq]
  unfold limit at hlim
  omega) hr fun a w hr=>?_
 have hr:Rel Mod F0 w0 (Zes s (sorted (done.map Prod.fst))) a w:=Z1 (P:=Go.Proofs.Tryz.prog) (lab:=setLab1) hr
 rw[ZK2 (hperm.map Prod.fst)] at hr
 have hg:=Zw2 s (sorted (s.2.map Prod.fst)) (by rw[List.length_mergeSort,List.length_map];exact hk)
 exact tailStep hcl hdet (ps:=Zmm s (sorted (s.2.map Prod.fst))) rfl (by kernel_rfl) (Zwl s _) (ZvM s _) hg hr
end
noncomputable def ZhV:Run:=entO ZqX Zrx (fun a=>Zbk a.1) (fun a=>ZbJ a.1)
theorem ZjN:EntOK Go.Proofs.Tryz.prog 64 ZhV:=Zww (Zoz (ZiT (fn:=Go.Proofs.Tryz.f64) (c:=setListBody) (by kernel_rfl) (by kernel_rfl) (by kernel_rfl))) fun a h=>Ztt a.1 h
end Go.Ev
end

section
open Go Go.Ev
namespace Go.Ev
noncomputable section
def Zhg:Sig:=[(true,(.sl Za)),(false,(.int .i64))]
noncomputable def ZuO:Tbl:=[(43,ZkO),(63,ZuS),(45,ZcY),(64,ZhV)]
theorem ZIo:∀p∈ZuO,EntOK Go.Proofs.Tryz.prog p.1 p.2:=Zg ZlQ (Zg ZxF (Zg Zcc (Zg ZjN (Zu))))
noncomputable def ZoY:Code:=Go.Proofs.Tryz.f44.body.getD .skip
def Zre:Tb:=[(4,⟨[2,5,6],[(1000000000000000000000000000000000000000000000000000000000007,1)]⟩)]
inductive Zls where | l4 (len:Nat) (seen:Int) (open_:List Int) (seen1:List (Int×Int))
def Zk2 (t:List (El Za)) (i:Int):Zls→JT Zls (List Int) |.l4 len seen open_ seen1=>.br (decide ((Int.ofNat len) > (0:Int))) (.br ((decide ((0:Int)≤(IntKind.i64.wrap ((Int.ofNat len) - (1:Int)))))&&(decide ((IntKind.i64.wrap ((Int.ofNat len) - (1:Int))) < (Int.ofNat len)))) (.br ((decide ((0:Int)≤(IntKind.i64.wrap ((Int.ofNat len) - (1:Int)))))&&(decide ((IntKind.i64.wrap ((Int.ofNat len) - (1:Int)))≤(Int.ofNat len)))) (.br (Zq (seen,seen1) (List.getD open_ (Int.toNat (IntKind.i64.wrap ((Int.ofNat len) - (1:Int)))) (dflt (.int .i64)))).1 (.br (Zev t (List.getD open_ (Int.toNat (IntKind.i64.wrap ((Int.ofNat len) - (1:Int)))) (dflt (.int .i64)))) (.br (Nat.ble (((List.length (List.take (Int.toNat (IntKind.i64.wrap ((Int.ofNat len) - (1:Int)))) open_))+(List.length (Zaa t (List.getD open_ (Int.toNat (IntKind.i64.wrap ((Int.ofNat len) - (1:Int)))) (dflt (.int .i64))))))*8) limit) (.jmp (.l4 (List.length ((List.take (Int.toNat (IntKind.i64.wrap ((Int.ofNat len) - (1:Int)))) open_)++(Zaa t (List.getD open_ (Int.toNat (IntKind.i64.wrap ((Int.ofNat len) - (1:Int)))) (dflt (.int .i64)))))) (Zq (seen,seen1) (List.getD open_ (Int.toNat (IntKind.i64.wrap ((Int.ofNat len) - (1:Int)))) (dflt (.int .i64)))).2.1 ((List.take (Int.toNat (IntKind.i64.wrap ((Int.ofNat len) - (1:Int)))) open_)++(Zaa t (List.getD open_ (Int.toNat (IntKind.i64.wrap ((Int.ofNat len) - (1:Int)))) (dflt (.int .i64))))) (Zq (seen,seen1) (List.getD open_ (Int.toNat (IntKind.i64.wrap ((Int.ofNat len) - (1:Int)))) (dflt (.int .i64)))).2.2)) (.no)) (.no)) (.jmp (.l4 (Int.toNat (IntKind.i64.wrap ((Int.ofNat len) - (1:Int)))) (Zq (seen,seen1) (List.getD open_ (Int.toNat (IntKind.i64.wrap ((Int.ofNat len) - (1:Int)))) (dflt (.int .i64)))).2.1 open_ (Zq (seen,seen1) (List.getD open_ (Int.toNat (IntKind.i64.wrap ((Int.ofNat len) - (1:Int)))) (dflt (.int .i64)))).2.2))) (.no)) (.no)) (.br (Zbk (seen,seen1)) (.leaf (ZbJ (seen,seen1)).1) (.no))
def ZsL (t:List (El Za)) (i:Int):JT Zls (List Int):=.br (Zev t i) (.jmp (.l4 (List.length (Zaa t i)) (Zy (Int.ofNat (List.length t))).1 (Zaa t i) (Zy (Int.ofNat (List.length t))).2)) (.no)
def Zqk:List Int→AV:=fun (r:List Int)=>.rw 3 (.int .i64) r
def ZgW (t:List (El Za)) (i:Int):Zls→Nat×St |.l4 len seen open_ seen1=>(4,⟨mkTm 39 [(2,.pt 3 0 0),(5,.pt 6 0 0),(6,.own 7 0 (some len))],[(3,0,.box 34 [.d (.sl Za) t] none),(6,0,.box 103 [.d (.int .i64) seen,.mp 6146 0] none),(7,0,.row 3 (.int .i64) open_ false),(6146,0,.map (.int .i64) (.int .u64) seen1)]⟩)
theorem ZIO (t:List (El Za)) (i:Int) (L:Lt):entryA Go.Proofs.Tryz.prog (clOf ZuO) Zre Go.Proofs.Tryz.f44 ZoY L (toForms Zhg (t,i,()))=(ZsL t i).run (fun v=>some (Zqk v,tps (toForms Zhg (t,i,())))) fun j=>L (ZgW t i j).1 (ZgW t i j).2:=by kernel_rfl
theorem ZIs (t:List (El Za)) (i:Int):∀(L:Lt) (j:Zls),procOf (procsF Go.Proofs.Tryz.prog (clOf ZuO) Zre Go.Proofs.Tryz.f44 ZoY (toForms Zhg (t,i,()))) (ZgW t i j).1 L (ZgW t i j).2=(Zk2 t i j).run (fun v=>some (Zqk v,tps (toForms Zhg (t,i,())))) fun j=>L (ZgW t i j).1 (ZgW t i j).2 | L,.l4 len seen open_ seen1=>by kernel_rfl
end
end Go.Ev
end

section
open Go
namespace Go.Ev
noncomputable def Zby (t:List (El Za)) (i:Int):List Int:=listOf t.length (fromB t i)
def Zim (t:List (El Za)) (i:Int):Bool:=flowOK t
theorem ZC9 (t:List (El Za)) (i:Int):(Zaa t i).length≤3:=by
 unfold Zaa
 by_cases h:0≤i∧i < (t.length:Int)
 ·obtain ⟨j,rfl⟩:=Int.eq_ofNat_of_zero_le h.1
  rw[←ZLI (by omega)]
  unfold nextL
  simp only[List.length_append]
  split <;> split <;> split <;> simp
 ·rw[Zz2 h];simp
theorem ZN6 {l:List Int} {n:Nat} (h:n+1≤l.length):l.take (n+1)=l.take n++[l.getD n 0]:=by
 have hn:n < l.length:=by omega
 rw[List.take_succ_eq_append_getElem hn,ZG hn]
theorem ZJ4 (t:List (El Za)) (i:Int) (hk:Zim t i=true):Goes (Zk2 t i) (ZsL t i) (Zby t i):=by
 have hlen:=ZbS hk
 generalize hn:t.length=n at hlen
 have loop:∀m,∀(M:Nat→Bool) (s:Int×List (Int×Int)) (open_:List Int) (len:Nat),len≤open_.length→4*(n - card n M)+len=m→SetOK s n M→(∀j,M j=true→Come (fun k j=>nextB t (k:Int) j) (nextB t i) j)→
   (∀x∈open_.take len,∃j:Nat,x=(j:Int)∧Come (fun k j=>nextB t (k:Int) j) (nextB t i) j)→(∀j,nextB t i j=true→M j=true∨(j:Int)∈open_.take len)→(∀k j,M k=true→nextB t (k:Int) j=true→M j=true∨(j:Int)∈open_.take len)→
   len≤3*(card n M+1)→Goes (Zk2 t i) (.jmp (.l4 len s.1 open_ s.2)) (Zby t i):=by
  intro m
  induction m using Nat.strongRecOn with
  | _ m ih=>
  intro M s open_ len hl hm hs h1 h2 h3 h4 h5
  cases len with
  | zero=>
   rw[Zi,Zk2,Ze,if_neg (by decide)]
   have hkl:Zbk (s.1,s.2)=true:=Nat.ble_eq_true_of_le (by have:=hs.few;unfold limit;show s.2.length*512≤_;omega)
   rw[Ze,if_pos hkl]
   have hv:(ZbJ (s.1,s.2)).1=Zby t i:=by
    show listS s=_
    rw[hs.list (by omega)]
    unfold Zby fromB
    rw[hn]
    refine Zsv fun j _=>Zpk (fun j hj=>?_) (fun k j hk hj=>?_) h1 j
    ·simpa using h3 j hj
    ·simpa using h4 k j hk hj
   rw[hv];exact .leaf
  | succ len=>
   have hc:= @Ze1 n M
   have e:IntKind.i64.wrap (Int.ofNat (len+1) - 1)=(len:Int):=by
    rw[wrap_i64 (by simp <;> omega) (by simp <;> omega)];simp
   have g1:decide (Int.ofNat (len+1) > (0:Int))=true:=decide_eq_true (by simp <;> omega)
   have g2:(decide ((0:Int)≤(len:Int))&&decide ((len:Int) < Int.ofNat (len+1)))=true:=Zas (by omega)
   have g3:(decide ((0:Int)≤(len:Int))&&decide ((len:Int)≤Int.ofNat (len+1)))=true:=by simp;omega
   rw[Zi,Zk2,e,Ze,if_pos g1,Ze,if_pos g2,Ze,if_pos g3,Ze,Int.toNat_natCast]
   have htk:=ZN6 hl
   obtain ⟨j,hj,hcj⟩:=h2 (open_.getD len 0) (by rw[htk];simp)
   have hjn:j < n:=by
    have:=ZDU (n:=t.length) (fun j=>ZdV) (fun k j=>ZdV) hcj
    omega
   have hd:open_.getD len (dflt (.int .i64))=(j:Int):=hj
   rw[hd]
   have hput:Zq (s.1,s.2) (j:Int)=putS s (j:Int):=rfl
   rw[hput]
   have sub:∀x,x∈open_.take len→x∈open_.take (len+1):=fun x hx=>by rw[htk];simp[hx]
   cases hMj:M j with
   | true=>
    have hno:=hs.put_no (by omega) (i:=(j:Int)) (fun h=>by rw[Int.toNat_natCast,hMj] at h;cases h.2.2)
    rw[hno,if_neg (by simp)]
    have lose:∀k:Nat,(M k=true∨(k:Int)∈open_.take (len+1))→(M k=true∨(k:Int)∈open_.take len):=fun k h=>by
     rcases h with h | h
     ·exact .inl h
     ·rw[htk,List.mem_append] at h
      rcases h with h | h
      ·exact .inr h
      ·simp only[List.mem_singleton] at h
       rw[hj] at h
       have:k=j:=by omega
       subst this
       exact .inl hMj
    exact ih (m - 1) (by omega) M s open_ len (by omega) (by omega) hs h1 (fun x hx=>h2 x (sub x hx)) (fun k hk=>lose k (h3 k hk)) (fun k k' hk hk'=>lose k' (h4 k k' hk hk')) (by omega)
   | false=>
    obtain ⟨p1,p2⟩:=hs.put (by omega) hjn hMj
    have hsh:=ZC9 t (j:Int)
    have hkn:Zev t (j:Int)=true:=hk
    rw[p1,if_pos rfl,Ze,if_pos hkn,Ze,if_pos (Nat.ble_eq_true_of_le (by
     rw[List.length_take];unfold limit;omega))]
    have hcard:=Zmz hMj hjn
    have hcl2:= @Ze1 n (fun k=>M k || (k==j))
    have hnl:∀k:Nat,nextB t (j:Int) k=true→(k:Int)∈Zaa t (j:Int):=fun k hk=>Zcv.2 ⟨k,ZdV hk,hk,rfl⟩
    have htake:(open_.take len++Zaa t (j:Int)).take (open_.take len++Zaa t (j:Int)).length=open_.take len++Zaa t (j:Int):=List.take_length
    have hlen2:(open_.take len++Zaa t (j:Int)).length≤len+3:=by rw[List.length_append,List.length_take];omega
    have keep:∀k:Nat,(M k=true∨(k:Int)∈open_.take (len+1))→((M k || (k==j))=true∨(k:Int)∈open_.take len++Zaa t (j:Int)):=fun k h=>by
     rcases h with h | h
     ·exact .inl (by rw[h];rfl)
     ·rw[htk,List.mem_append] at h
      rcases h with h | h
      ·exact .inr (List.mem_append_left _ h)
      ·simp only[List.mem_singleton] at h
       rw[hj] at h
       have:k=j:=by omega
       subst this
       exact .inl (by simp)
    refine ih _ (by omega) (fun k=>M k || (k==j)) (putS s (j:Int)).2 (open_.take len++Zaa t (j:Int)) (open_.take len++Zaa t (j:Int)).length (Nat.le_refl _) rfl p2 (fun k hk=>?_) (fun x hx=>?_) (fun k hk=>?_) (fun k k' hk hk'=>?_) (by omega)
    ·simp only[Bool.or_eq_true,beq_iff_eq] at hk
     rcases hk with hk | hk
     ·exact h1 k hk
     ·subst hk;exact hcj
    ·rw[htake,List.mem_append] at hx
     rcases hx with hx | hx
     ·exact h2 x (sub x hx)
     ·obtain ⟨k,_,hk,rfl⟩:=Zcv.1 hx
      exact ⟨k,rfl,.step hcj hk⟩
    ·rw[htake];exact keep k (h3 k hk)
    ·rw[htake]
     simp only[Bool.or_eq_true,beq_iff_eq] at hk
     rcases hk with hk | hk
     ·exact keep k' (h4 k k' hk hk')
     ·subst hk
      exact .inr (List.mem_append_right _ (hnl k' hk'))
 have hkn:Zev t i=true:=hk
 unfold ZsL
 rw[Ze,if_pos hkn]
 have hnew:Zy (Int.ofNat (List.length t))=((n:Int),[]):=by
  rw[hn]
  unfold Zy
  simp
  omega
 rw[hnew]
 refine loop _ (fun _=>false) ((n:Int),[]) (Zaa t i) _ (Nat.le_refl _) rfl (SetOK.new n) (fun j h=>by cases h) (fun x hx=>?_) (fun j hj=>.inr ?_) (fun k j h=>by cases h) (by have:=ZC9 t i;omega)
 ·rw[List.take_length] at hx
  obtain ⟨k,_,hk,rfl⟩:=Zcv.1 hx
  exact ⟨k,rfl,.start hk⟩
 ·rw[List.take_length];exact Zcv.2 ⟨j,ZdV hj,hj,rfl⟩
end Go.Ev
end

section
open Go Go.Ev
namespace Go.Ev
noncomputable section
noncomputable def ZuJ:Run:=entG Zhg Zqk (fun a=>Zim a.1 a.2.1) (fun a=>Zby a.1 a.2.1)
theorem ZxO:EntOK Go.Proofs.Tryz.prog 44 ZuJ:=ZJ (tb:=Zre) (c:=ZoY) ZIo (by kernel_rfl) (by kernel_rfl) (by kernel_rfl) (fun a=>by kernel_rfl) fun ⟨t,i,_⟩ hk=>Zn (c:=ZoY) (K:=fun v=>(Zqk v,tps (toForms Zhg (t,i,())))) (S:=ZgW t i) (by kernel_rfl) (ZIO t i) (ZIs t i) (ZJ4 t i hk)
end
end Go.Ev
end

section
open Go Go.Ev
namespace Go.Ev
noncomputable section
def Zlt:PSig:=[.dat false (.int .i64),.obj 76 [(.d (.sl Zb))],.obj 3 [(.d (.int .i64))],.ptr 80 103 [(.d (.int .i64)),(.m (.int .i64) (.int .u64))],.obj 23 [(.w 3 (.int .i64))],.obj 3 [(.d (.int .i64))],.ptr 80 103 [(.d (.int .i64)),(.m (.int .i64) (.int .u64))]]
noncomputable def Zn0:Tbl:=[(67,Zv0),(45,ZcY)]
theorem ZBp:∀p∈Zn0,EntOK Go.Proofs.Tryz.prog p.1 p.2:=Zg ZCR (Zg Zcc (Zu))
noncomputable def Zgk:Code:=Go.Proofs.Tryz.f66.body.getD .skip
def ZkV:Tb:=[(1,⟨[0,1,2,3,4,5,6,10,11,12],[]⟩)]
inductive Zf9 where | l1 (h:Int) (h1:Int) (h2:List Int) (h3:List (Int×Int)) (h4:Int) (h5:List (Int×Int))
def Zge (x:Int) (l:List (El Zb)) (own:Int) (come:Int×List (Int×Int)) (open_:List Int) (a:Int) (back:Int×List (Int×Int)):Zf9→JT Zf9 ((List (El Zb))×Int×(Int×List (Int×Int))×(List Int)×Int×Int×List (Int×Int)) |.l1 h h1 h2 h3 h4 h5=>.br (decide (h < (Int.ofNat (List.length l)))) (.br ((decide ((0:Int)≤h))&&(decide (h < (Int.ofNat (List.length l))))) (.br ((decide ((0:Int)≤x))&&(decide (x < (Int.ofNat (List.length l))))) (.br (! (Zf0 (List.getD l (Int.toNat x) (dflt Zb)) (List.getD l (Int.toNat h) (dflt Zb)))) (.jmp (.l1 (IntKind.i64.wrap (h+(1:Int))) h1 h2 h3 h4 h5)) (.br ((List.getD l (Int.toNat h) (dflt Zb)).1 !=own) (.br (Zq (h1,h3) h).1 (.br (Nat.ble (((List.length h2)+1)*8) limit) (.jmp (.l1 (IntKind.i64.wrap (h+(1:Int))) (Zq (h1,h3) h).2.1 (h2++[h]) (Zq (h1,h3) h).2.2 h4 h5)) (.no)) (.jmp (.l1 (IntKind.i64.wrap (h+(1:Int))) (Zq (h1,h3) h).2.1 h2 (Zq (h1,h3) h).2.2 h4 h5))) (.br (x !=a) (.jmp (.l1 (IntKind.i64.wrap (h+(1:Int))) h1 h2 h3 (Zq (h4,h5) h).2.1 (Zq (h4,h5) h).2.2)) (.jmp (.l1 (IntKind.i64.wrap (h+(1:Int))) h1 h2 h3 h4 h5))))) (.no)) (.no)) (.leaf (l,(own,((h1,h3),(h2,(a,(h4,h5)))))))
def ZrD (x:Int) (l:List (El Zb)) (own:Int) (come:Int×List (Int×Int)) (open_:List Int) (a:Int) (back:Int×List (Int×Int)):JT Zf9 ((List (El Zb))×Int×(Int×List (Int×Int))×(List Int)×Int×Int×List (Int×Int)):=.jmp (.l1 (0:Int) come.1 open_ come.2 back.1 back.2)
def ZiU:(List (El Zb))×Int×(Int×List (Int×Int))×(List Int)×Int×Int×List (Int×Int)→Ans:=fun (r:(List (El Zb))×Int×(Int×List (Int×Int))×(List Int)×Int×Int×List (Int×Int))=>(.tu [],[.top,.bx 76 [.d (.sl Zb) r.1],.bx 3 [.d (.int .i64) r.2.1],.bx 80 [.bx 103 [.d (.int .i64) r.2.2.1.1,.mv (.int .i64) (.int .u64) r.2.2.1.2]],.bx 23 [.rw 3 (.int .i64) r.2.2.2.1],.bx 3 [.d (.int .i64) r.2.2.2.2.1],.bx 80 [.bx 103 [.d (.int .i64) r.2.2.2.2.2.1,.mv (.int .i64) (.int .u64) r.2.2.2.2.2.2]]])
def Zc0 (x:Int) (l:List (El Zb)) (own:Int) (come:Int×List (Int×Int)) (open_:List Int) (a:Int) (back:Int×List (Int×Int)):Zf9→Nat×St |.l1 h h1 h2 h3 h4 h5=>(1,⟨mkTm 42 [(0,.d (.int .i64) x),(1,.pt 2 0 0),(2,.pt 3 0 0),(3,.pt 4 0 0),(4,.pt 5 0 0),(5,.pt 6 0 0),(6,.pt 7 0 0),(10,.d (.sl Zb) l),(11,.d (.int .i64) (Int.ofNat (List.length l))),(12,.d (.int .i64) h)],[(2,0,.box 76 [.d (.sl Zb) l] (some 1)),(3,0,.box 3 [.d (.int .i64) own] (some 2)),(4,0,.box 80 [.pt 4097 0 0] (some 3)),(5,0,.box 23 [.own 5121 0 none] (some 4)),(6,0,.box 3 [.d (.int .i64) a] (some 5)),(7,0,.box 80 [.pt 7169 0 0] (some 6)),(4097,0,.box 103 [.d (.int .i64) h1,.mp 4195330 0] none),(5121,0,.row 3 (.int .i64) h2 false),(7169,0,.box 103 [.d (.int .i64) h4,.mp 7341058 0] none),(4195330,0,.map (.int .i64) (.int .u64) h3),(7341058,0,.map (.int .i64) (.int .u64) h5)]⟩)
theorem ZBl (x:Int) (l:List (El Zb)) (own:Int) (come:Int×List (Int×Int)) (open_:List Int) (a:Int) (back:Int×List (Int×Int)) (L:Lt):entryA Go.Proofs.Tryz.prog (clOf Zn0) ZkV Go.Proofs.Tryz.f66 Zgk L (toPs Zlt (x,l,own,come,open_,a,back,()))=(ZrD x l own come open_ a back).run (fun v=>some (ZiU v)) fun j=>L (Zc0 x l own come open_ a back j).1 (Zc0 x l own come open_ a back j).2:=by kernel_rfl
theorem ZA9 (x:Int) (l:List (El Zb)) (own:Int) (come:Int×List (Int×Int)) (open_:List Int) (a:Int) (back:Int×List (Int×Int)):∀(L:Lt) (j:Zf9),procOf (procsF Go.Proofs.Tryz.prog (clOf Zn0) ZkV Go.Proofs.Tryz.f66 Zgk (toPs Zlt (x,l,own,come,open_,a,back,()))) (Zc0 x l own come open_ a back j).1 L (Zc0 x l own come open_ a back j).2=(Zge x l own come open_ a back j).run (fun v=>some (ZiU v)) fun j=>L (Zc0 x l own come open_ a back j).1 (Zc0 x l own come open_ a back j).2 | L,.l1 h h1 h2 h3 h4 h5=>by kernel_rfl
end
end Go.Ev
end

section
open Go
namespace Go.Ev
abbrev SetT:=Int×List (Int×Int)
def meet1 (l : List Acc) (x own a : Int) (h : Nat) (s : SetT × List Int × SetT) : SetT × List Int × SetT :=
  if clB l x.toNat h = true then
    (if thA l h ≠ own then ((putS s.1 (h : Int)).2, (if (putS s.1 (h : Int)).1 = true then s.2.1 ++ [(h : Int)] else s.2.1), s.2.2)
     else if x ≠ a then (s.1, s.2.1, (putS s.2.2 (h : Int)).2) else s)
  else s
def meetF (l:List Acc) (x own a:Int):List Nat→SetT×List Int×SetT→SetT×List Int×SetT
 | [],s=>s
 | h :: r,s=>meetF l x own a r (meet1 l x own a h s)
def ZW (x:Int) (l:List (El Zb)) (own:Int) (come:SetT) (open_:List Int) (a:Int) (back:SetT):(List (El Zb))×Int×SetT×(List Int)×Int×SetT:=
 (l,own,(meetF l x own a (List.range' 0 l.length) (come,open_,back)).1,(meetF l x own a (List.range' 0 l.length) (come,open_,back)).2.1,a,(meetF l x own a (List.range' 0 l.length) (come,open_,back)).2.2)
def Zf5 (x:Int) (l:List (El Zb)) (own:Int) (come:SetT) (open_:List Int) (a:Int) (back:SetT):Bool:=decide (0≤x∧x < (l.length:Int)∧l.length < 1099511627776∧open_.length < 1099511627776)
theorem ZBQ (x:Int) (l:List (El Zb)) (own:Int) (come:SetT) (open_:List Int) (a:Int) (back:SetT) (hk:Zf5 x l own come open_ a back=true):Goes (Zge x l own come open_ a back) (ZrD x l own come open_ a back) (ZW x l own come open_ a back):=by
 obtain ⟨x0,x1,hN,hO⟩:=of_decide_eq_true hk
 obtain ⟨T,hT⟩:∃T,T=Zge x l own come open_ a back:=⟨_,rfl⟩
 rw[←hT]
 have loop:∀h,h≤l.length→∀s:SetT×List Int×SetT,s.2.1.length≤open_.length+h→Goes T (.jmp (.l1 (h:Int) s.1.1 s.2.1 s.1.2 s.2.2.1 s.2.2.2)) (l,own,(meetF l x own a (List.range' h (l.length - h)) s).1,(meetF l x own a (List.range' h (l.length - h)) s).2.1,a,(meetF l x own a (List.range' h (l.length - h)) s).2.2):=by
  refine down ?_ fun h hh ih=>?_
  ·intro s hs
   rw[Zi,hT,Zge,←hT,Ze,if_neg (by rw[Zw (Nat.lt_irrefl _)];decide),Nat.sub_self]
   exact .leaf
  ·intro s hs
   have hx1:decide ((0:Int)≤x)=true:=decide_eq_true x0
   have hx2:decide (x < Int.ofNat l.length)=true:=decide_eq_true x1
   rw[show l.length - h=(l.length - (h+1))+1 by omega,List.range'_succ,meetF]
   have ec:Zf0 (List.getD l x.toNat (dflt Zb)) (List.getD l h (dflt Zb))=clB l x.toNat h:=rfl
   have et:(List.getD l h (dflt Zb)).1=thA l h:=rfl
   have hp:Zq (s.1.1,s.1.2) (h:Int)=putS s.1 (h:Int):=rfl
   have hp2:Zq (s.2.2.1,s.2.2.2) (h:Int)=putS s.2.2 (h:Int):=rfl
   have b1:Nat.ble ((s.2.1.length+1)*8) limit=true:=Nat.ble_eq_true_of_le (by unfold limit;omega)
   have key:=ih (meet1 l x own a h s)
   rw[Zi,hT,Zge,←hT]
   simp only[Ze,ZQ hh,nng,hx1,hx2,Bool.and_self,if_true,Int.toNat_natCast,ec,et,hp,hp2,b1,Zs (k:=h) (by omega)]
   by_cases c1:clB l x.toNat h=true
   ·rw[if_neg (by rw[c1];decide)]
    by_cases c2:thA l h=own
    ·rw[if_neg (by simp[c2])]
     by_cases c3:x=a
     ·have hm:meet1 l x own a h s=s:=by unfold meet1;rw[if_pos c1,if_neg (by simp[c2]),if_neg (by simp[c3])]
      rw[hm] at key ⊢
      rw[if_neg (by simp[c3])]
      exact key (by omega)
     ·have hm:meet1 l x own a h s=(s.1,s.2.1,(putS s.2.2 (h:Int)).2):=by unfold meet1;rw[if_pos c1,if_neg (by simp[c2]),if_pos c3]
      rw[hm] at key ⊢
      rw[if_pos (by simpa using c3)]
      exact key (by show s.2.1.length≤_;omega)
    ·rw[if_pos (by simpa using c2)]
     by_cases c4:(putS s.1 (h:Int)).1=true
     ·have hm:meet1 l x own a h s=((putS s.1 (h:Int)).2,s.2.1++[(h:Int)],s.2.2):=by unfold meet1;rw[if_pos c1,if_pos c2,if_pos c4]
      rw[hm] at key ⊢
      rw[if_pos c4]
      exact key (by show (s.2.1++[(h:Int)]).length≤_;simp;omega)
     ·have hm:meet1 l x own a h s=((putS s.1 (h:Int)).2,s.2.1,s.2.2):=by unfold meet1;rw[if_pos c1,if_pos c2,if_neg c4]
      rw[hm] at key ⊢
      rw[if_neg c4]
      exact key (by show s.2.1.length≤_;omega)
   ·have hm:meet1 l x own a h s=s:=by unfold meet1;rw[if_neg c1]
    rw[hm] at key ⊢
    rw[if_pos (by simpa using c1)]
    exact key (by omega)
 exact loop 0 (Nat.zero_le _) (come,open_,back) (by simp)
end Go.Ev
end

section
open Go Go.Ev
namespace Go.Ev
noncomputable section
noncomputable def Zt4:Run:=entO Zlt ZiU (fun a=>Zf5 a.1 a.2.1 a.2.2.1 a.2.2.2.1 a.2.2.2.2.1 a.2.2.2.2.2.1 a.2.2.2.2.2.2.1) (fun a=>ZW a.1 a.2.1 a.2.2.1 a.2.2.2.1 a.2.2.2.2.1 a.2.2.2.2.2.1 a.2.2.2.2.2.2.1)
theorem ZzY:EntOK Go.Proofs.Tryz.prog 66 Zt4:=ZKO (tb:=ZkV) (c:=Zgk) (Zoz (ZiT (fn:=Go.Proofs.Tryz.f66) (c:=Zgk) (by kernel_rfl) (by kernel_rfl) (by kernel_rfl))) ZBp (by kernel_rfl) (by kernel_rfl) (fun a=>by kernel_rfl) fun ⟨x,l,own,come,open_,a,back,_⟩ hk=>Zn (c:=Zgk) (K:=ZiU) (S:=Zc0 x l own come open_ a back) (by kernel_rfl) (ZBl x l own come open_ a back) (ZA9 x l own come open_ a back) (ZBQ x l own come open_ a back hk)
end
end Go.Ev
end

section
open Go Go.Ev
namespace Go.Ev
noncomputable section
def Zdd:Sig:=[(true,Zc),(false,(.sl Zb)),(false,(.int .i64))]
noncomputable def ZnI:Tbl:=[(43,ZkO),(44,ZuJ),(45,ZcY),(46,Zf6)]
theorem Zzy:∀p∈ZnI,EntOK Go.Proofs.Tryz.prog p.1 p.2:=Zg ZlQ (Zg ZxO (Zg Zcc (Zg ZeN (Zu))))
noncomputable def ZiW:Code:=Go.Proofs.Tryz.f68.body.getD .skip
def Zlj:Tb:=[(6,⟨[1,2,7,9,32,33,34,58,64,69,70,72,76],[]⟩),(14,⟨[2,7,9,12,42,43,44],[(13,46)]⟩)]
inductive Zgd where | l6 (h:Int) (x:Int) (x1:Int) (x2:Int) (x3:Int) (x4:Bool) (x5:Bool) (from_:Int) (h1:List Int) (from_1:List (Int×Int)) (h2:Int) | l14 (x:Int) (x1:Int) (x2:Int) (x3:Int) (x4:Bool) (x5:Bool) (from_:Int) (from_1:List (Int×Int)) (h:Int) (out:List Int)
def Zbf (p:El Zc) (l:List (El Zb)) (c:Int):Zgd→JT Zgd (List Int) |.l6 h x x1 x2 x3 x4 x5 from_ h1 from_1 h2=>.br (decide (h2 < h)) (.br ((decide ((0:Int)≤h2))&&(decide (h2 < (Int.ofNat (List.length h1))))) (.jmp (.l6 h x x1 x2 x3 x4 x5 (Zq (from_,from_1) (List.getD h1 (Int.toNat h2) (dflt (.int .i64)))).2.1 h1 (Zq (from_,from_1) (List.getD h1 (Int.toNat h2) (dflt (.int .i64)))).2.2 (IntKind.i64.wrap (h2+(1:Int))))) (.no)) (.jmp (.l14 x x1 x2 x3 x4 x5 from_ from_1 (0:Int) [])) |.l14 x x1 x2 x3 x4 x5 from_ from_1 h out=>.br (decide (h < (Int.ofNat (List.length l)))) (.br ((decide ((0:Int)≤h))&&(decide (h < (Int.ofNat (List.length l))))) (.br ((List.getD l (Int.toNat h) (dflt Zb)).1==x) (.br (h==c) (.br (Nat.ble (((List.length out)+1)*8) limit) (.jmp (.l14 x x1 x2 x3 x4 x5 from_ from_1 (IntKind.i64.wrap (h+(1:Int))) (out++[h]))) (.no)) (.br ((List.getD l (Int.toNat h) (dflt Zb)).2.1==x1) (.br (decide ((List.getD l (Int.toNat h) (dflt Zb)).2.2.1 > x2)) (.br (Nat.ble (((List.length out)+1)*8) limit) (.jmp (.l14 x x1 x2 x3 x4 x5 from_ from_1 (IntKind.i64.wrap (h+(1:Int))) (out++[h]))) (.no)) (.br (Zp (from_,from_1) (List.getD l (Int.toNat h) (dflt Zb)).2.1).1 (.br (Nat.ble (((List.length out)+1)*8) limit) (.jmp (.l14 x x1 x2 x3 x4 x5 (Zp (from_,from_1) (List.getD l (Int.toNat h) (dflt Zb)).2.1).2.1 (Zp (from_,from_1) (List.getD l (Int.toNat h) (dflt Zb)).2.1).2.2 (IntKind.i64.wrap (h+(1:Int))) (out++[h]))) (.no)) (.jmp (.l14 x x1 x2 x3 x4 x5 (Zp (from_,from_1) (List.getD l (Int.toNat h) (dflt Zb)).2.1).2.1 (Zp (from_,from_1) (List.getD l (Int.toNat h) (dflt Zb)).2.1).2.2 (IntKind.i64.wrap (h+(1:Int))) out)))) (.br (Zp (from_,from_1) (List.getD l (Int.toNat h) (dflt Zb)).2.1).1 (.br (Nat.ble (((List.length out)+1)*8) limit) (.jmp (.l14 x x1 x2 x3 x4 x5 (Zp (from_,from_1) (List.getD l (Int.toNat h) (dflt Zb)).2.1).2.1 (Zp (from_,from_1) (List.getD l (Int.toNat h) (dflt Zb)).2.1).2.2 (IntKind.i64.wrap (h+(1:Int))) (out++[h]))) (.no)) (.jmp (.l14 x x1 x2 x3 x4 x5 (Zp (from_,from_1) (List.getD l (Int.toNat h) (dflt Zb)).2.1).2.1 (Zp (from_,from_1) (List.getD l (Int.toNat h) (dflt Zb)).2.1).2.2 (IntKind.i64.wrap (h+(1:Int))) out))))) (.jmp (.l14 x x1 x2 x3 x4 x5 from_ from_1 (IntKind.i64.wrap (h+(1:Int))) out))) (.no)) (.leaf out)
def ZkU (p:El Zc) (l:List (El Zb)) (c:Int):JT Zgd (List Int):=.br ((decide ((0:Int)≤c))&&(decide (c < (Int.ofNat (List.length l))))) (.br ((decide ((0:Int)≤(List.getD l (Int.toNat c) (dflt Zb)).1))&&(decide ((List.getD l (Int.toNat c) (dflt Zb)).1 < (Int.ofNat (List.length p.2))))) (.br (Zim (List.getD p.2 (Int.toNat (List.getD l (Int.toNat c) (dflt Zb)).1) (dflt (.sl Za))) (List.getD l (Int.toNat c) (dflt Zb)).2.1) (.jmp (.l6 (Int.ofNat (List.length (Zby (List.getD p.2 (Int.toNat (List.getD l (Int.toNat c) (dflt Zb)).1) (dflt (.sl Za))) (List.getD l (Int.toNat c) (dflt Zb)).2.1))) (List.getD l (Int.toNat c) (dflt Zb)).1 (List.getD l (Int.toNat c) (dflt Zb)).2.1 (List.getD l (Int.toNat c) (dflt Zb)).2.2.1 (List.getD l (Int.toNat c) (dflt Zb)).2.2.2.1 (List.getD l (Int.toNat c) (dflt Zb)).2.2.2.2.1 (List.getD l (Int.toNat c) (dflt Zb)).2.2.2.2.2 (Zy (Int.ofNat (List.length (List.getD p.2 (Int.toNat (List.getD l (Int.toNat c) (dflt Zb)).1) (dflt (.sl Za)))))).1 (Zby (List.getD p.2 (Int.toNat (List.getD l (Int.toNat c) (dflt Zb)).1) (dflt (.sl Za))) (List.getD l (Int.toNat c) (dflt Zb)).2.1) (Zy (Int.ofNat (List.length (List.getD p.2 (Int.toNat (List.getD l (Int.toNat c) (dflt Zb)).1) (dflt (.sl Za)))))).2 (0:Int))) (.no)) (.no)) (.no)
def Zi3:List Int→AV:=fun (r:List Int)=>.rw 3 (.int .i64) r
def ZcU (p:El Zc) (l:List (El Zb)) (c:Int):Zgd→Nat×St |.l6 h x x1 x2 x3 x4 x5 from_ h1 from_1 h2=>(6,⟨mkTm 85 [(1,.d (.sl Zb) l),(2,.d (.int .i64) c),(7,.pt 8 0 0),(9,.pt 10 0 0),(32,.own 33 0 none),(33,.d (.int .i64) h),(34,.d (.int .i64) h2)],[(8,0,.box 84 [.d (.int .i64) x,.d (.int .i64) x1,.d (.int .i64) x2,.d (.int .i64) x3,.d .bool x4,.d .bool x5] none),(10,0,.box 103 [.d (.int .i64) from_,.mp 10242 0] none),(33,0,.row 3 (.int .i64) h1 false),(10242,0,.map (.int .i64) (.int .u64) from_1)]⟩) |.l14 x x1 x2 x3 x4 x5 from_ from_1 h out=>(14,⟨mkTm 85 [(2,.d (.int .i64) c),(7,.pt 8 0 0),(9,.pt 10 0 0),(12,.own 13 0 none),(42,.d (.sl Zb) l),(43,.d (.int .i64) (Int.ofNat (List.length l))),(44,.d (.int .i64) h)],[(8,0,.box 84 [.d (.int .i64) x,.d (.int .i64) x1,.d (.int .i64) x2,.d (.int .i64) x3,.d .bool x4,.d .bool x5] none),(10,0,.box 103 [.d (.int .i64) from_,.mp 10242 0] none),(13,0,.row 3 (.int .i64) out false),(10242,0,.map (.int .i64) (.int .u64) from_1)]⟩)
theorem ZAI (p:El Zc) (l:List (El Zb)) (c:Int) (L:Lt):entryA Go.Proofs.Tryz.prog (clOf ZnI) Zlj Go.Proofs.Tryz.f68 ZiW L (toForms Zdd (p,l,c,()))=(ZkU p l c).run (fun v=>some (Zi3 v,tps (toForms Zdd (p,l,c,())))) fun j=>L (ZcU p l c j).1 (ZcU p l c j).2:=by kernel_rfl
theorem ZAr (p:El Zc) (l:List (El Zb)) (c:Int):∀(L:Lt) (j:Zgd),procOf (procsF Go.Proofs.Tryz.prog (clOf ZnI) Zlj Go.Proofs.Tryz.f68 ZiW (toForms Zdd (p,l,c,()))) (ZcU p l c j).1 L (ZcU p l c j).2=(Zbf p l c j).run (fun v=>some (Zi3 v,tps (toForms Zdd (p,l,c,())))) fun j=>L (ZcU p l c j).1 (ZcU p l c j).2 | L,.l6 h x x1 x2 x3 x4 x5 from_ h1 from_1 h2=>by kernel_rfl | L,.l14 x x1 x2 x3 x4 x5 from_ from_1 h out=>by kernel_rfl
end
end Go.Ev
end

section
open Go
namespace Go.Ev
noncomputable def Zb3 (p:El Zc) (l:List (El Zb)) (c:Int):List Int:=listOf l.length (behB p l c.toNat)
def Zep (p:El Zc) (l:List (El Zb)) (c:Int):Bool:=decide (0≤c∧c < (l.length:Int)∧l.length < 1099511627776)&&(decide (0≤thA l c.toNat∧thA l c.toNat < (p.2.length:Int))&&flowOK (thrOf p l c.toNat))
theorem ZB6 (p:El Zc) (l:List (El Zb)) (c:Int) (hk:Zep p l c=true):Goes (Zbf p l c) (ZkU p l c) (Zb3 p l c):=by
 unfold Zep at hk
 simp only[Bool.and_eq_true,decide_eq_true_eq] at hk
 obtain ⟨⟨c0,c1,hN⟩,⟨t0,t1⟩,hf⟩:=hk
 obtain ⟨c,rfl⟩:=Int.eq_ofNat_of_zero_le c0
 rw[Int.toNat_natCast] at t0 t1 hf
 have hc:c < l.length:=by omega
 have htl:=ZbS hf
 obtain ⟨t,ht⟩:∃t,thrOf p l c=t:=⟨_,rfl⟩
 have hg:List.getD p.2 (Int.toNat (List.getD l c (dflt Zb)).1) (dflt (.sl Za))=t:=ht
 rw[ht] at hf htl
 have kf:Zim t (List.getD l c (dflt Zb)).2.1=true:=hf
 obtain ⟨L,hL⟩:∃L,Zby t (List.getD l c (dflt Zb)).2.1=L:=⟨_,rfl⟩
 have hLl:L.length≤t.length:=by rw[←hL];unfold Zby;rw[Zh2];exact Ze1
 have hmem:∀x,x∈L↔∃i:Nat,i < t.length∧fromB t (inA l c) i=true∧x=(i:Int):=fun x=>by rw[←hL];exact Zcv
 unfold ZkU Zb3
 rw[Ze,if_pos (Zas hc),Ze,Int.toNat_natCast]
 have hth:(decide ((0:Int)≤(List.getD l c (dflt Zb)).1)&&decide ((List.getD l c (dflt Zb)).1 < Int.ofNat p.2.length))=true:=by
  rw[Bool.and_eq_true,decide_eq_true_eq,decide_eq_true_eq];exact ⟨t0,t1⟩
 rw[if_pos hth,Ze,hg,if_pos kf,hL]
 have hnew:Zy (Int.ofNat (List.length t))=(((t.length:Nat):Int),[]):=by
  unfold Zy
  simp
  omega
 rw[hnew]
 have second:∀(s:Int×List (Int×Int)),SetOK s t.length (fromB t (inA l c))→∀h,h≤l.length→∀out:List Int,out.length≤h→
   Goes (Zbf p l (c:Int)) (.jmp (.l14 (List.getD l c (dflt Zb)).1 (List.getD l c (dflt Zb)).2.1 (List.getD l c (dflt Zb)).2.2.1 (List.getD l c (dflt Zb)).2.2.2.1 (List.getD l c (dflt Zb)).2.2.2.2.1 (List.getD l c (dflt Zb)).2.2.2.2.2 s.1 s.2 (h:Int) out)) (out++listR l.length (behB p l c) h):=by
  intro s hs
  refine down ?_ fun h hh ih=>?_
  ·intro out ho
   rw[Zi,Zbf,Ze,if_neg (by rw[Zw (Nat.lt_irrefl _)];decide),ZOc,List.append_nil]
   exact .leaf
  ·intro out ho
   have b1:Nat.ble ((out.length+1)*8) limit=true:=Nat.ble_eq_true_of_le (by unfold limit;omega)
   have hhas:Zp (s.1,s.2) (inA l h)=(decide (0≤inA l h)&&fromB t (inA l c) (inA l h).toNat,s):=by
    show (hasS s (inA l h),s)=_
    rw[hs.has (by omega)]
   have add:behB p l c h=true→Goes (Zbf p l (c:Int)) (.jmp (.l14 (List.getD l c (dflt Zb)).1 (List.getD l c (dflt Zb)).2.1 (List.getD l c (dflt Zb)).2.2.1 (List.getD l c (dflt Zb)).2.2.2.1 (List.getD l c (dflt Zb)).2.2.2.2.1 (List.getD l c (dflt Zb)).2.2.2.2.2 s.1 s.2 ((h+1:Nat):Int) (out++[(h:Int)]))) (out++listR l.length (behB p l c) h):=fun hb=>by
    rw[ZC2 hh,if_pos hb]
    have:=ih (out++[(h:Int)]) (by simp;omega)
    rwa[List.append_assoc] at this
   have skip:behB p l c h=false→Goes (Zbf p l (c:Int)) (.jmp (.l14 (List.getD l c (dflt Zb)).1 (List.getD l c (dflt Zb)).2.1 (List.getD l c (dflt Zb)).2.2.1 (List.getD l c (dflt Zb)).2.2.2.1 (List.getD l c (dflt Zb)).2.2.2.2.1 (List.getD l c (dflt Zb)).2.2.2.2.2 s.1 s.2 ((h+1:Nat):Int) out)) (out++listR l.length (behB p l c) h):=fun hb=>by
    rw[ZC2 hh,hb,if_neg (by decide)]
    exact ih out (by omega)
   have e1:(List.getD l h (dflt Zb)).1=thA l h:=rfl
   have e2:(List.getD l h (dflt Zb)).2.1=inA l h:=rfl
   have e3:(List.getD l h (dflt Zb)).2.2.1=paA l h:=rfl
   have f1:(List.getD l c (dflt Zb)).1=thA l c:=rfl
   have f2:(List.getD l c (dflt Zb)).2.1=inA l c:=rfl
   have f3:(List.getD l c (dflt Zb)).2.2.1=paA l c:=rfl
   have hbe:behB p l c h=(thA l h==thA l c&&(h==c || ((inA l h==inA l c&&decide (paA l h > paA l c)) || (decide (0≤inA l h)&&fromB t (inA l c) (inA l h).toNat)))):=by
    unfold behB
    rw[decide_eq_true hh,Bool.true_and,ht]
   have hhc:((h:Int)==(c:Int))=(h==c):=by
    by_cases e:h=c
    ·subst e;simp
    ·have:(h==c)=false:=by simpa using e
     rw[this];simp;omega
   rw[Zi,Zbf]
   simp only[Ze,ZQ hh,nng,Bool.and_self,if_true,Int.toNat_natCast,b1,Zs (k:=h) (by omega),e1,e2,e3,hhas,hhc]
   rw[f1,f2,f3] at*
   generalize hq:(decide (0≤inA l h)&&fromB t (inA l c) (inA l h).toNat)=q at*
   by_cases c1:(thA l h==thA l c)=true
   ·rw[if_pos c1]
    rw[c1,Bool.true_and] at hbe
    by_cases c2:(h==c)=true
    ·rw[if_pos c2]
     rw[c2,Bool.true_or] at hbe
     exact add hbe
    ·rw[if_neg c2]
     rw[Bool.eq_false_iff.2 c2,Bool.false_or] at hbe
     by_cases c3:(inA l h==inA l c)=true
     ·rw[if_pos c3]
      rw[c3,Bool.true_and] at hbe
      by_cases c4:decide (paA l h > paA l c)=true
      ·rw[if_pos c4]
       rw[c4,Bool.true_or] at hbe
       exact add hbe
      ·rw[if_neg c4]
       rw[Bool.eq_false_iff.2 c4,Bool.false_or] at hbe
       cases q with
       | true=>rw[if_pos rfl];exact add hbe
       | false=>rw[if_neg (by decide)];exact skip hbe
     ·rw[if_neg c3]
      rw[Bool.eq_false_iff.2 c3,Bool.false_and,Bool.false_or] at hbe
      cases q with
      | true=>rw[if_pos rfl];exact add hbe
      | false=>rw[if_neg (by decide)];exact skip hbe
   ·rw[if_neg c1]
    rw[Bool.eq_false_iff.2 c1,Bool.false_and] at hbe
    exact skip hbe
 have first:∀h,h≤L.length→∀(s:Int×List (Int×Int)),SetOK s t.length (fun j=>(L.take h).contains (j:Int))→
   Goes (Zbf p l (c:Int)) (.jmp (.l6 (Int.ofNat L.length) (List.getD l c (dflt Zb)).1 (List.getD l c (dflt Zb)).2.1 (List.getD l c (dflt Zb)).2.2.1 (List.getD l c (dflt Zb)).2.2.2.1 (List.getD l c (dflt Zb)).2.2.2.2.1 (List.getD l c (dflt Zb)).2.2.2.2.2 s.1 L s.2 (h:Int))) (listOf l.length (behB p l c)):=by
  refine down ?_ fun h hh ih=>?_
  ·intro s hs
   rw[Zi,Zbf,Ze,if_neg (by simp)]
   have:=second s (hs.congr' fun j=>by
    rw[List.take_length,Bool.eq_iff_iff,List.contains_iff_mem,hmem]
    constructor
    ·rintro ⟨i,_,h1,h2⟩;have:j=i:=by omega
     subst this;exact h1
    ·intro h;exact ⟨j,ZOx h,h,rfl⟩) 0 (Nat.zero_le _) [] (Nat.le_refl _)
   rwa[List.nil_append,ZMm] at this
  ·intro s hs
   obtain ⟨i,hi,_,hie⟩:=(hmem L[h]).1 (List.getElem_mem hh)
   obtain ⟨_,p2⟩:=hs.putO (by omega) hi
   have hp:Zq (s.1,s.2) (i:Int)=putS s (i:Int):=rfl
   rw[Zi,Zbf,Ze,if_pos (ZQ hh),Ze,if_pos (Zas hh),Int.toNat_natCast,ZG hh,hie,hp,Zs (by omega)]
   refine ih _ (p2.congr' fun j=>?_)
   rw[List.take_succ_eq_append_getElem hh,Bool.eq_iff_iff,Bool.or_eq_true,List.contains_iff_mem,List.contains_iff_mem,List.mem_append,List.mem_singleton,hie,beq_iff_eq]
   exact or_congr Iff.rfl (by omega)
 exact first 0 (Nat.zero_le _) (((t.length:Nat):Int),[]) ((SetOK.new t.length).congr' fun j=>by simp)
end Go.Ev
end

section
open Go Go.Ev
namespace Go.Ev
noncomputable section
noncomputable def ZtZ:Run:=entG Zdd Zi3 (fun a=>Zep a.1 a.2.1 a.2.2.1) (fun a=>Zb3 a.1 a.2.1 a.2.2.1)
theorem ZBh:EntOK Go.Proofs.Tryz.prog 68 ZtZ:=ZJ (tb:=Zlj) (c:=ZiW) Zzy (by kernel_rfl) (by kernel_rfl) (by kernel_rfl) (fun a=>by kernel_rfl) fun ⟨p,l,c,_⟩ hk=>Zn (c:=ZiW) (K:=fun v=>(Zi3 v,tps (toForms Zdd (p,l,c,())))) (S:=ZcU p l c) (by kernel_rfl) (ZAI p l c) (ZAr p l c) (ZB6 p l c hk)
end
end Go.Ev
end

section
open Go Go.Ev
namespace Go.Ev
noncomputable section
def ZfE:Sig:=[(true,Zc),(false,(.int .i64))]
noncomputable def Zrw:Tbl:=[(41,Zxm),(43,ZkO),(66,Zt4),(68,ZtZ),(45,ZcY),(64,ZhV)]
theorem ZEb:∀p∈Zrw,EntOK Go.Proofs.Tryz.prog p.1 p.2:=Zg ZBk (Zg ZlQ (Zg ZzY (Zg ZBh (Zg Zcc (Zg ZjN (Zu))))))
noncomputable def Zmi:Code:=Go.Proofs.Tryz.f47.body.getD .skip
def Zqh:Tb:=[(11,⟨[2,5,7,9,10,11],[]⟩),(17,⟨[2,5,7,9,10,11,54,55,56],[]⟩),(hintK,⟨[],[(1,46)]⟩)]
inductive Zjr where | l11 (l:List (El Zb)) (back:Int) (open_:List Int) (meet:Int) (meet1:Int) (back1:List (Int×Int)) (meet2:Int) (meet3:List (Int×Int)) (gone:Int) (gone1:List (Int×Int)) | l17 (h:Int) (l:List (El Zb)) (h1:List Int) (back:Int) (open_:List Int) (meet:Int) (meet1:Int) (back1:List (Int×Int)) (meet2:Int) (meet3:List (Int×Int)) (h2:Int) (gone:Int) (gone1:List (Int×Int))
def ZeI (p:El Zc) (a:Int):Zjr→JT Zjr (List Int) |.l11 l back open_ meet meet1 back1 meet2 meet3 gone gone1=>.br (decide ((Int.ofNat (List.length open_)) > (0:Int))) (.br (decide ((0:Int) < (Int.ofNat (List.length open_)))) (.br (Nat.ble 1 (List.length open_)) (.br (Zep p l (List.getD open_ 0 (dflt (.int .i64)))) (.jmp (.l17 (Int.ofNat (List.length (Zb3 p l (List.getD open_ 0 (dflt (.int .i64)))))) l (Zb3 p l (List.getD open_ 0 (dflt (.int .i64)))) back (List.drop 1 open_) meet meet1 back1 meet2 meet3 (0:Int) gone gone1)) (.no)) (.no)) (.no)) (.br (Zbk (back,back1)) (.leaf (ZbJ (back,back1)).1) (.no)) |.l17 h l h1 back open_ meet meet1 back1 meet2 meet3 h2 gone gone1=>.br (decide (h2 < h)) (.br ((decide ((0:Int)≤h2))&&(decide (h2 < (Int.ofNat (List.length h1))))) (.br (Zq (gone,gone1) (List.getD h1 (Int.toNat h2) (dflt (.int .i64)))).1 (.br (Zf5 (List.getD h1 (Int.toNat h2) (dflt (.int .i64))) l meet (meet2,meet3) open_ meet1 (back,back1)) (.jmp (.l17 h (ZW (List.getD h1 (Int.toNat h2) (dflt (.int .i64))) l meet (meet2,meet3) open_ meet1 (back,back1)).1 h1 (ZW (List.getD h1 (Int.toNat h2) (dflt (.int .i64))) l meet (meet2,meet3) open_ meet1 (back,back1)).2.2.2.2.2.1 (ZW (List.getD h1 (Int.toNat h2) (dflt (.int .i64))) l meet (meet2,meet3) open_ meet1 (back,back1)).2.2.2.1 (ZW (List.getD h1 (Int.toNat h2) (dflt (.int .i64))) l meet (meet2,meet3) open_ meet1 (back,back1)).2.1 (ZW (List.getD h1 (Int.toNat h2) (dflt (.int .i64))) l meet (meet2,meet3) open_ meet1 (back,back1)).2.2.2.2.1 (ZW (List.getD h1 (Int.toNat h2) (dflt (.int .i64))) l meet (meet2,meet3) open_ meet1 (back,back1)).2.2.2.2.2.2 (ZW (List.getD h1 (Int.toNat h2) (dflt (.int .i64))) l meet (meet2,meet3) open_ meet1 (back,back1)).2.2.1.1 (ZW (List.getD h1 (Int.toNat h2) (dflt (.int .i64))) l meet (meet2,meet3) open_ meet1 (back,back1)).2.2.1.2 (IntKind.i64.wrap (h2+(1:Int))) (Zq (gone,gone1) (List.getD h1 (Int.toNat h2) (dflt (.int .i64)))).2.1 (Zq (gone,gone1) (List.getD h1 (Int.toNat h2) (dflt (.int .i64)))).2.2)) (.no)) (.jmp (.l17 h l h1 back open_ meet meet1 back1 meet2 meet3 (IntKind.i64.wrap (h2+(1:Int))) (Zq (gone,gone1) (List.getD h1 (Int.toNat h2) (dflt (.int .i64)))).2.1 (Zq (gone,gone1) (List.getD h1 (Int.toNat h2) (dflt (.int .i64)))).2.2))) (.no)) (.jmp (.l11 l back open_ meet meet1 back1 meet2 meet3 gone gone1))
def Zqg (p:El Zc) (a:Int):JT Zjr (List Int):=.br (Zor p) (.br (decide (a < (0:Int))) (.leaf []) (.br (decide (a≥(Int.ofNat (List.length (ZA p))))) (.leaf []) (.br ((decide ((0:Int)≤a))&&(decide (a < (Int.ofNat (List.length (ZA p)))))) (.br (Zf5 a (ZA p) (List.getD (ZA p) (Int.toNat a) (dflt Zb)).1 (Zy (Int.ofNat (List.length (ZA p)))) [] a (Zy (Int.ofNat (List.length (ZA p))))) (.jmp (.l11 (ZW a (ZA p) (List.getD (ZA p) (Int.toNat a) (dflt Zb)).1 (Zy (Int.ofNat (List.length (ZA p)))) [] a (Zy (Int.ofNat (List.length (ZA p))))).1 (ZW a (ZA p) (List.getD (ZA p) (Int.toNat a) (dflt Zb)).1 (Zy (Int.ofNat (List.length (ZA p)))) [] a (Zy (Int.ofNat (List.length (ZA p))))).2.2.2.2.2.1 (ZW a (ZA p) (List.getD (ZA p) (Int.toNat a) (dflt Zb)).1 (Zy (Int.ofNat (List.length (ZA p)))) [] a (Zy (Int.ofNat (List.length (ZA p))))).2.2.2.1 (ZW a (ZA p) (List.getD (ZA p) (Int.toNat a) (dflt Zb)).1 (Zy (Int.ofNat (List.length (ZA p)))) [] a (Zy (Int.ofNat (List.length (ZA p))))).2.1 (ZW a (ZA p) (List.getD (ZA p) (Int.toNat a) (dflt Zb)).1 (Zy (Int.ofNat (List.length (ZA p)))) [] a (Zy (Int.ofNat (List.length (ZA p))))).2.2.2.2.1 (ZW a (ZA p) (List.getD (ZA p) (Int.toNat a) (dflt Zb)).1 (Zy (Int.ofNat (List.length (ZA p)))) [] a (Zy (Int.ofNat (List.length (ZA p))))).2.2.2.2.2.2 (ZW a (ZA p) (List.getD (ZA p) (Int.toNat a) (dflt Zb)).1 (Zy (Int.ofNat (List.length (ZA p)))) [] a (Zy (Int.ofNat (List.length (ZA p))))).2.2.1.1 (ZW a (ZA p) (List.getD (ZA p) (Int.toNat a) (dflt Zb)).1 (Zy (Int.ofNat (List.length (ZA p)))) [] a (Zy (Int.ofNat (List.length (ZA p))))).2.2.1.2 (Zy (Int.ofNat (List.length (ZA p)))).1 (Zy (Int.ofNat (List.length (ZA p)))).2)) (.no)) (.no)))) (.no)
def Znf:List Int→AV:=fun (r:List Int)=>.rw 3 (.int .i64) r
def Zfd (p:El Zc) (a:Int):Zjr→Nat×St |.l11 l back open_ meet meet1 back1 meet2 meet3 gone gone1=>(11,⟨mkTm 69 [(2,.pt 3 0 0),(5,.pt 6 0 0),(7,.pt 8 0 0),(9,.pt 10 0 0),(10,.pt 11 0 0),(11,.fn 66 [.pt 6 0 0,.pt 12290 0 0,.pt 12291 0 0,.pt 11 0 0,.pt 12293 0 0,.pt 8 0 0])],[(3,0,.box 27 [.d (.sl Zx) p.1,.d (.sl (.sl Za)) p.2] none),(6,0,.box 76 [.d (.sl Zb) l] none),(8,0,.box 80 [.pt 8193 0 0] none),(10,0,.box 103 [.d (.int .i64) gone,.mp 10242 0] none),(11,0,.box 23 [.own 11265 0 none] none),(8193,0,.box 103 [.d (.int .i64) back,.mp 8389634 0] none),(10242,0,.map (.int .i64) (.int .u64) gone1),(11265,0,.row 3 (.int .i64) open_ false),(12290,0,.box 3 [.d (.int .i64) meet] none),(12291,0,.box 80 [.pt 12585985 0 0] none),(12293,0,.box 3 [.d (.int .i64) meet1] none),(8389634,0,.map (.int .i64) (.int .u64) back1),(12585985,0,.box 103 [.d (.int .i64) meet2,.mp 12888048642 0] none),(12888048642,0,.map (.int .i64) (.int .u64) meet3)]⟩) |.l17 h l h1 back open_ meet meet1 back1 meet2 meet3 h2 gone gone1=>(17,⟨mkTm 69 [(2,.pt 3 0 0),(5,.pt 6 0 0),(7,.pt 8 0 0),(9,.pt 10 0 0),(10,.pt 11 0 0),(11,.fn 66 [.pt 6 0 0,.pt 12290 0 0,.pt 12291 0 0,.pt 11 0 0,.pt 12293 0 0,.pt 8 0 0]),(54,.own 55 0 none),(55,.d (.int .i64) h),(56,.d (.int .i64) h2)],[(3,0,.box 27 [.d (.sl Zx) p.1,.d (.sl (.sl Za)) p.2] none),(6,0,.box 76 [.d (.sl Zb) l] none),(8,0,.box 80 [.pt 8193 0 0] none),(10,0,.box 103 [.d (.int .i64) gone,.mp 10242 0] none),(11,0,.box 23 [.own 11265 0 none] none),(55,0,.row 3 (.int .i64) h1 false),(8193,0,.box 103 [.d (.int .i64) back,.mp 8389634 0] none),(10242,0,.map (.int .i64) (.int .u64) gone1),(11265,0,.row 3 (.int .i64) open_ false),(12290,0,.box 3 [.d (.int .i64) meet] none),(12291,0,.box 80 [.pt 12585985 0 0] none),(12293,0,.box 3 [.d (.int .i64) meet1] none),(8389634,0,.map (.int .i64) (.int .u64) back1),(12585985,0,.box 103 [.d (.int .i64) meet2,.mp 12888048642 0] none),(12888048642,0,.map (.int .i64) (.int .u64) meet3)]⟩)
theorem ZE3 (p:El Zc) (a:Int) (L:Lt):entryA Go.Proofs.Tryz.prog (clOf Zrw) Zqh Go.Proofs.Tryz.f47 Zmi L (toForms ZfE (p,a,()))=(Zqg p a).run (fun v=>some (Znf v,tps (toForms ZfE (p,a,())))) fun j=>L (Zfd p a j).1 (Zfd p a j).2:=by kernel_rfl
theorem ZD9 (p:El Zc) (a:Int):∀(L:Lt) (j:Zjr),procOf (procsF Go.Proofs.Tryz.prog (clOf Zrw) Zqh Go.Proofs.Tryz.f47 Zmi (toForms ZfE (p,a,()))) (Zfd p a j).1 L (Zfd p a j).2=(ZeI p a j).run (fun v=>some (Znf v,tps (toForms ZfE (p,a,())))) fun j=>L (Zfd p a j).1 (Zfd p a j).2 | L,.l11 l back open_ meet meet1 back1 meet2 meet3 gone gone1=>by kernel_rfl | L,.l17 h l h1 back open_ meet meet1 back1 meet2 meet3 h2 gone gone1=>by kernel_rfl
end
end Go.Ev
end

section
namespace Go.Ev
open Go
theorem ZzM {t:Nat} {a:El Zb} :∀ {l:List (El Za)} {k:Nat},a∈accT t k l↔∃(j:Nat) (i:El Za),l[j]? =some i∧a∈accI t (k+j) i
 | [],k=>by simp[accT]
 | i :: r,k=>by
  unfold accT
  rw[List.mem_append,ZzM (l:=r)]
  constructor
  ·rintro (h | ⟨j,i',h1,h2⟩)
   ·exact ⟨0,i,rfl,h⟩
   ·exact ⟨j+1,i',by simpa using h1,by rw[show k+(j+1)=k+1+j by omega];exact h2⟩
  ·rintro ⟨j,i',h1,h2⟩
   cases j with
   | zero=>left;simp at h1;subst h1;exact h2
   | succ j=>right;exact ⟨j,i',by simpa using h1,by rw[show k+1+j=k+(j+1) by omega];exact h2⟩
theorem ZNB {t k:Nat} {i:El Za} {a:El Zb} :a∈accI t k i↔((ZaI i).2=true∧a=((t:Int),((k:Int),((0:Int),((ZaI i).1.2.2.1,(false,Zam i))))))∨((ZaG i).2=true∧a=((t:Int),((k:Int),((if (ZaI i).2 then (1:Int) else 0),((ZaG i).1.2.2.1,(true,Zam i)))))):=by
 unfold accI
 rw[List.mem_append]
 cases (ZaI i).2 <;> cases (ZaG i).2 <;> simp
theorem Zwu {t k:Nat} {i:El Za} {a:El Zb} (h:a∈accI t k i):(show Int from a.1)=(t:Int)∧(show Int from a.2.1)=(k:Int):=by
 rcases ZNB.1 h with ⟨_,rfl⟩ | ⟨_,rfl⟩ <;> exact ⟨rfl,rfl⟩
theorem ZAS {a:El Zb} :∀ {l:List (List (El Za))} {t:Nat},a∈accP t l↔∃(u:Nat) (x:List (El Za)) (j:Nat) (i:El Za),l[u]? =some x∧x[j]? =some i∧a∈accI (t+u) j i
 | [],t=>by simp[accP]
 | x :: r,t=>by
  unfold accP
  rw[List.mem_append,ZzM,ZAS (l:=r)]
  constructor
  ·rintro (⟨j,i,h1,h2⟩ | ⟨u,y,j,i,h1,h2,h3⟩)
   ·exact ⟨0,x,j,i,rfl,h1,by rw[Nat.zero_add] at h2;exact h2⟩
   ·exact ⟨u+1,y,j,i,by simpa using h1,h2,by rw[show t+(u+1)=t+1+u by omega];exact h3⟩
  ·rintro ⟨u,y,j,i,h1,h2,h3⟩
   cases u with
   | zero=>
    left
    simp at h1
    subst h1
    exact ⟨j,i,h2,by rw[Nat.zero_add];exact h3⟩
   | succ u=>right;exact ⟨u,y,j,i,by simpa using h1,h2,by rw[show t+1+u=t+(u+1) by omega];exact h3⟩
theorem ZHh {p:El Zc} {a:El Zb} (h:a∈ofC p):∃(u:Nat) (x:List (El Za)) (j:Nat) (i:El Za),p.2[u]? =some x∧x[j]? =some i∧a∈accI u j i∧(show Int from a.1)=(u:Int)∧(show Int from a.2.1)=(j:Int):=by
 unfold ofC at h
 split at h
 ·obtain ⟨u,x,j,i,h1,h2,h3⟩:=ZAS.1 h
  rw[Nat.zero_add] at h3
  exact ⟨u,x,j,i,h1,h2,h3,(Zwu h3).1,(Zwu h3).2⟩
 ·cases h
def ltNX (t k q t' k' q':Int):Prop:=t < t'∨t=t'∧(k < k'∨k=k'∧q < q')
def ltAX (a b:El Zb):Prop:=ltNX a.1 a.2.1 a.2.2.1 b.1 b.2.1 b.2.2.1
theorem ZNp (t k:Nat) (i:El Za):(accI t k i).Pairwise ltAX:=by
 unfold accI
 cases (ZaI i).2 <;> cases (ZaG i).2 <;> simp[List.pairwise_cons]
 exact .inr ⟨rfl,.inr ⟨rfl,by show (0:Int) < 1;omega⟩⟩
theorem ZLw {t:Nat} {l:List (El Za)} {k:Nat} {a:El Zb} (h:a∈accT t k l):∃(j:Nat) (i:El Za),l[j]? =some i∧a∈accI t (k+j) i∧(show Int from a.1)=(t:Int)∧(show Int from a.2.1)=((k+j:Nat):Int):=by
 obtain ⟨j,i,h1,h2⟩:=ZzM.1 h
 exact ⟨j,i,h1,h2,Zwu h2⟩
theorem ZHO (t:Nat):∀(k:Nat) (l:List (El Za)),(accT t k l).Pairwise ltAX
 | _,[]=>.nil
 | k,i :: r=>by
  unfold accT
  refine List.pairwise_append.2 ⟨ZNp t k i,ZHO t (k+1) r,fun a ha b hb=>?_⟩
  obtain ⟨h1,h2⟩:=Zwu ha
  obtain ⟨j,_,_,_,h3,h4⟩:=ZLw hb
  have key:∀a1 a2 a3 b1 b2 b3:Int,a1=t→a2=k→b1=t→b2=((k+1+j:Nat):Int)→ltNX a1 a2 a3 b1 b2 b3:=fun a1 a2 a3 b1 b2 b3 e1 e2 e3 e4=>.inr ⟨by omega,.inl (by omega)⟩
  exact key _ _ _ _ _ _ h1 h2 h3 h4
theorem ZJD:∀(t:Nat) (l:List (List (El Za))),(accP t l).Pairwise ltAX
 | _,[]=>.nil
 | t,x :: r=>by
  unfold accP
  refine List.pairwise_append.2 ⟨ZHO t 0 x,ZJD (t+1) r,fun a ha b hb=>?_⟩
  obtain ⟨_,_,_,_,h1,_⟩:=ZLw ha
  obtain ⟨u,_,_,_,_,_,hb3⟩:=ZAS.1 hb
  have h3:=(Zwu hb3).1
  have key:∀a1 a2 a3 b1 b2 b3:Int,a1=t→b1=((t+1+u:Nat):Int)→ltNX a1 a2 a3 b1 b2 b3:=fun a1 a2 a3 b1 b2 b3 e1 e3=>.inl (by omega)
  exact key _ _ _ _ _ _ h1 h3
theorem ZOe (p:El Zc):(ofC p).Pairwise ltAX:=by
 unfold ofC
 split
 ·exact ZJD 0 p.2
 ·exact .nil
theorem Zs4 {t:List (El Za)} (h:smallThread t=true):flowOK t=true:=by
 have labs:∀ {t:List (El Za)} {i:El Za},i∈t→i.2.2.2.2.2.2.length≤(labels t).length:=fun {t i} hi=>by
  unfold labels
  induction t with
  | nil=>cases hi
  | cons x r ih=>
   rw[List.flatMap_cons,List.length_append]
   rcases List.mem_cons.1 hi with rfl | hi
   ·omega
   ·have:=ih hi;omega
 unfold smallThread at h
 simp only[Bool.and_eq_true,List.all_eq_true,decide_eq_true_eq] at h
 unfold flowOK
 simp only[Bool.and_eq_true,List.all_eq_true,decide_eq_true_eq]
 refine ⟨h.1,fun i hi=>⟨(h.2.2 i hi).1,?_⟩⟩
 have:=labs hi
 omega
end Go.Ev
end

section
open Go
namespace Go.Ev
noncomputable def ZbP (p:El Zc) (a:Int):List Int:=if 0≤a∧a < ((ofC p).length:Int) then listOf (ofC p).length (backB p (ofC p) a.toNat) else []
def Zhy (p:El Zc) (a:Int):Bool:=smallAll p
theorem ZGh {l:List Acc} {x:Nat} {own a:Int} :∀(n h:Nat) (s:SetT×List Int×SetT) (C B:Nat→Bool),l.length < 1099511627776→h+n≤l.length→SetOK s.1 l.length C→SetOK s.2.2 l.length B→
  ∃C' B',SetOK (meetF l (x:Int) own a (List.range' h n) s).1 l.length C'∧SetOK (meetF l (x:Int) own a (List.range' h n) s).2.2 l.length B'∧
   (∀j,C' j=true↔C j=true∨(h≤j∧j < h+n∧clB l x j=true∧thA l j≠own))∧(∀j,B' j=true↔B j=true∨(h≤j∧j < h+n∧clB l x j=true∧thA l j=own∧(x:Int)≠a))∧
   (∀y∈s.2.1,y∈(meetF l (x:Int) own a (List.range' h n) s).2.1)∧(∀y∈(meetF l (x:Int) own a (List.range' h n) s).2.1,y∈s.2.1∨∃j:Nat,y=(j:Int)∧C' j=true)∧
   (∀j,C' j=true→C j=true∨(j:Int)∈(meetF l (x:Int) own a (List.range' h n) s).2.1)∧(meetF l (x:Int) own a (List.range' h n) s).2.1.length+card l.length C=s.2.1.length+card l.length C'
 | 0,h,s,C,B,_,_,hC,hB=>⟨C,B,hC,hB,fun j=>⟨.inl,fun h=>h.elim id fun h=>by omega⟩,fun j=>⟨.inl,fun h=>h.elim id fun h=>by omega⟩,fun y hy=>hy,fun y hy=>.inl hy,fun j hj=>.inl hj,rfl⟩
 | n+1,h,s,C,B,hN,hn,hC,hB=>by
  rw[List.range'_succ,meetF]
  have hh:h < l.length:=by omega
  have one:∃C1 B1,SetOK (meet1 l (x:Int) own a h s).1 l.length C1∧SetOK (meet1 l (x:Int) own a h s).2.2 l.length B1∧(∀j,C1 j=true↔C j=true∨(j=h∧clB l x h=true∧thA l h≠own))∧(∀j,B1 j=true↔B j=true∨(j=h∧clB l x h=true∧thA l h=own∧(x:Int)≠a))∧
    (∀y∈s.2.1,y∈(meet1 l (x:Int) own a h s).2.1)∧(∀y∈(meet1 l (x:Int) own a h s).2.1,y∈s.2.1∨∃j:Nat,y=(j:Int)∧C1 j=true)∧(∀j,C1 j=true→C j=true∨(j:Int)∈(meet1 l (x:Int) own a h s).2.1)∧
    (meet1 l (x:Int) own a h s).2.1.length+card l.length C=s.2.1.length+card l.length C1:=by
   unfold meet1
   rw[Int.toNat_natCast]
   by_cases c1:clB l x h=true
   ·rw[if_pos c1]
    by_cases c2:thA l h=own
    ·rw[if_neg (by simp[c2])]
     by_cases c3:(x:Int)=a
     ·rw[if_neg (by simp[c3])]
      exact ⟨C,B,hC,hB,fun j=>⟨.inl,fun h=>h.elim id fun h=>absurd c2 h.2.2⟩,fun j=>⟨.inl,fun h=>h.elim id fun h=>absurd c3 h.2.2.2⟩,fun y hy=>hy,fun y hy=>.inl hy,fun j hj=>.inl hj,rfl⟩
     ·rw[if_pos c3]
      obtain ⟨_,p2⟩:=hB.putO (by omega) hh
      refine ⟨C,_,hC,p2,fun j=>⟨.inl,fun h=>h.elim id fun h=>absurd c2 h.2.2⟩,fun j=>?_,fun y hy=>hy,fun y hy=>.inl hy,fun j hj=>.inl hj,rfl⟩
      rw[Bool.or_eq_true,beq_iff_eq]
      exact or_congr Iff.rfl ⟨fun h=>⟨h,c1,c2,c3⟩,fun h=>h.1⟩
    ·rw[if_pos c2]
     obtain ⟨p1,p2⟩:=hC.putO (by omega) hh
     have hB':∀j,B j=true↔B j=true∨(j=h∧clB l x h=true∧thA l h=own∧(x:Int)≠a):=fun j=>⟨.inl,fun h=>h.elim id fun h=>absurd h.2.2.1 c2⟩
     have hC':∀j,(C j || (j==h))=true↔C j=true∨(j=h∧clB l x h=true∧thA l h≠own):=fun j=>by
      rw[Bool.or_eq_true,beq_iff_eq]
      exact or_congr Iff.rfl ⟨fun h=>⟨h,c1,c2⟩,fun h=>h.1⟩
     refine ⟨_,B,p2,hB,hC',hB',?_⟩
     cases hCh:C h with
     | true=>
      rw[hCh] at p1
      rw[if_neg (by rw[p1];decide)]
      have e:(fun k=>C k || (k==h))=C:=funext fun k=>by
       by_cases hk:k=h
       ·subst hk;rw[hCh];rfl
       ·have:(k==h)=false:=by simpa using hk
        rw[this,Bool.or_false]
      refine ⟨fun y hy=>hy,fun y hy=>.inl hy,fun j hj=>.inl ?_,by rw[e]⟩
      have:=congrFun e j
      rw[←this];exact hj
     | false=>
      rw[hCh] at p1
      rw[if_pos (by rw[p1];rfl)]
      refine ⟨fun y hy=>List.mem_append_left _ hy,fun y hy=>?_,fun j hj=>?_,?_⟩
      ·rcases List.mem_append.1 hy with hy | hy
       ·exact .inl hy
       ·simp only[List.mem_singleton] at hy
        exact .inr ⟨h,hy,by simp⟩
      ·rw[Bool.or_eq_true,beq_iff_eq] at hj
       rcases hj with hj | rfl
       ·exact .inl hj
       ·exact .inr (List.mem_append_right _ (by simp))
      ·rw[Zmz hCh hh,List.length_append,List.length_singleton]
       omega
   ·rw[if_neg c1]
    exact ⟨C,B,hC,hB,fun j=>⟨.inl,fun h=>h.elim id fun h=>absurd h.2.1 c1⟩,fun j=>⟨.inl,fun h=>h.elim id fun h=>absurd h.2.1 c1⟩,fun y hy=>hy,fun y hy=>.inl hy,fun j hj=>.inl hj,rfl⟩
  obtain ⟨C1,B1,a1,a2,a3,a4,a5,a6,a7,a8⟩:=one
  obtain ⟨C2,B2,b1,b2,b3,b4,b5,b6,b7,b8⟩:=ZGh n (h+1) (meet1 l (x:Int) own a h s) C1 B1 hN (by omega) a1 a2
  refine ⟨C2,B2,b1,b2,fun j=>?_,fun j=>?_,fun y hy=>b5 y (a5 y hy),fun y hy=>?_,fun j hj=>?_,by omega⟩
  ·rw[b3,a3,or_assoc]
   refine or_congr Iff.rfl ⟨?_,?_⟩
   ·rintro (⟨rfl,h1⟩ | ⟨h1,h2,h3⟩)
    ·exact ⟨Nat.le_refl _,by omega,h1⟩
    ·exact ⟨by omega,by omega,h3⟩
   ·rintro ⟨h1,h2,h3⟩
    by_cases e:j=h
    ·subst e;exact .inl ⟨rfl,h3⟩
    ·exact .inr ⟨by omega,by omega,h3⟩
  ·rw[b4,a4,or_assoc]
   refine or_congr Iff.rfl ⟨?_,?_⟩
   ·rintro (⟨rfl,h1⟩ | ⟨h1,h2,h3⟩)
    ·exact ⟨Nat.le_refl _,by omega,h1⟩
    ·exact ⟨by omega,by omega,h3⟩
   ·rintro ⟨h1,h2,h3⟩
    by_cases e:j=h
    ·subst e;exact .inl ⟨rfl,h3⟩
    ·exact .inr ⟨by omega,by omega,h3⟩
  ·rcases b6 y hy with h1 | h1
   ·rcases a6 y h1 with h2 | ⟨j,h2,h3⟩
    ·exact .inl h2
    ·exact .inr ⟨j,h2,(b3 j).2 (.inl h3)⟩
   ·exact .inr h1
  ·rcases b7 j hj with h1 | h1
   ·rcases a7 j h1 with h2 | h2
    ·exact .inl h2
    ·exact .inr (b5 _ h2)
   ·exact .inr h1
structure BInv (p:El Zc) (l:List Acc) (a:Nat) (C G B:Nat→Bool) (O:List Int):Prop where
 c:∀c,C c=true↔c < l.length∧thA l c≠thA l a∧(clB l a c=true∨∃k,G k=true∧clB l k c=true)
 g:∀d,G d=true→∃c,C c=true∧behB p l c d=true
 o:∀x∈O,∃c:Nat,x=(c:Int)∧C c=true
 b:∀b,B b=true↔b < l.length∧thA l b=thA l a∧∃k,G k=true∧clB l k b=true
 s:∀d,G d=true→isB p l a d=true
theorem BInv.is {p:El Zc} {l:List Acc} {a:Nat} {C G B:Nat→Bool} {O:List Int} (h:BInv p l a C G B O) {c:Nat} (hc:C c=true):isB p l a c=true:=by
 obtain ⟨h1,h2,h3⟩:=(h.c c).1 hc
 rcases h3 with h3 | ⟨k,hk,h3⟩
 ·exact ZcI.2 (.start (by unfold chS;rw[decide_eq_true h1,h3];rfl))
 ·refine ZcI.2 (.step (ZcI.1 (h.s k hk)) ?_)
  unfold chB
  simp only[Bool.and_eq_true,decide_eq_true_eq,Bool.not_eq_true',beq_eq_false_iff_ne,Bool.or_eq_true]
  exact ⟨h1,h2,.inl h3⟩
theorem BInv.meet {p:El Zc} {l:List Acc} {a d:Nat} {C G B C' B':Nat→Bool} {O O':List Int} {c:Nat} (h:BInv p l a C G B O) (hc:C c=true) (hd:behB p l c d=true) (hl:d < l.length)
  (hC:∀j,C' j=true↔C j=true∨(0≤j∧j < 0+l.length∧clB l d j=true∧thA l j≠thA l a)) (hB:∀j,B' j=true↔B j=true∨(0≤j∧j < 0+l.length∧clB l d j=true∧thA l j=thA l a∧(d:Int)≠(a:Int)))
  (hO:∀y∈O',y∈O∨∃j:Nat,y=(j:Int)∧C' j=true):BInv p l a C' (fun k=>G k || (k==d)) B' O':=by
 have hth:=ZNZ hd
 have hne:=((h.c c).1 hc).2.1
 have hdis:isB p l a d=true:=by
  refine ZcI.2 (.step (ZcI.1 (h.is hc)) ?_)
  unfold chB
  simp only[Bool.and_eq_true,decide_eq_true_eq,Bool.not_eq_true',beq_eq_false_iff_ne,Bool.or_eq_true]
  exact ⟨hl,by rw[hth.2];exact hne,.inr hd⟩
 have hg:∀k,(G k || (k==d))=true↔G k=true∨k=d:=fun k=>by rw[Bool.or_eq_true,beq_iff_eq]
 refine ⟨fun j=>?_,fun j hj=>?_,fun y hy=>?_,fun j=>?_,fun j hj=>?_⟩
 ·rw[hC,h.c]
  constructor
  ·rintro (⟨h1,h2,h3⟩ | ⟨_,h1,h2,h3⟩)
   ·exact ⟨h1,h2,h3.imp id fun ⟨k,hk,h4⟩=>⟨k,(hg k).2 (.inl hk),h4⟩⟩
   ·exact ⟨by omega,h3,.inr ⟨d,(hg d).2 (.inr rfl),h2⟩⟩
  ·rintro ⟨h1,h2,h3⟩
   rcases h3 with h3 | ⟨k,hk,h3⟩
   ·exact .inl ⟨h1,h2,.inl h3⟩
   ·rcases (hg k).1 hk with hk | rfl
    ·exact .inl ⟨h1,h2,.inr ⟨k,hk,h3⟩⟩
    ·exact .inr ⟨Nat.zero_le _,by omega,h3,h2⟩
 ·rcases (hg j).1 hj with hj | rfl
  ·obtain ⟨c',h1,h2⟩:=h.g j hj
   exact ⟨c',(hC c').2 (.inl h1),h2⟩
  ·exact ⟨c,(hC c).2 (.inl hc),hd⟩
 ·rcases hO y hy with hy | hy
  ·obtain ⟨c',h1,h2⟩:=h.o y hy
   exact ⟨c',h1,(hC c').2 (.inl h2)⟩
  ·exact hy
 ·rw[hB,h.b]
  constructor
  ·rintro (⟨h1,h2,k,hk,h3⟩ | ⟨_,h1,h2,h3,_⟩)
   ·exact ⟨h1,h2,k,(hg k).2 (.inl hk),h3⟩
   ·exact ⟨by omega,h3,d,(hg d).2 (.inr rfl),h2⟩
  ·rintro ⟨h1,h2,k,hk,h3⟩
   rcases (hg k).1 hk with hk | rfl
   ·exact .inl ⟨h1,h2,k,hk,h3⟩
   ·refine .inr ⟨Nat.zero_le _,by omega,h3,h2,fun e=>hne ?_⟩
    have:k=a:=by omega
    subst this
    rw[←hth.2]
 ·rcases (hg j).1 hj with hj | rfl
  ·exact h.s j hj
  ·exact hdis
theorem ZHC (p:El Zc) (a:Int) (hk:Zhy p a=true):Goes (ZeI p a) (Zqg p a) (ZbP p a):=by
 have hA:=smallA hk
 have hNl:=ZNb hk
 have kt:Zor p=true:=hk
 have vt:ZA p=ofC p:=rfl
 have hacc:∀c,c < (ofC p).length→0≤thA (ofC p) c∧thA (ofC p) c < (p.2.length:Int)∧flowOK (thrOf p (ofC p) c)=true:=fun c hc=>by
  have hm:accA (ofC p) c∈ofC p:=by unfold accA;rw[ZG hc];exact List.getElem_mem hc
  obtain ⟨u,x,j,i,h1,h2,h3,h4,h5⟩:=ZHh hm
  have hth:thA (ofC p) c=(u:Int):=h4
  have hu:=(List.getElem?_eq_some_iff.1 h1).1
  have hx:x∈p.2:=List.mem_of_getElem? h1
  refine ⟨by omega,by omega,?_⟩
  unfold thrOf
  rw[hth,Int.toNat_natCast,List.getD_eq_getElem?_getD,h1]
  exact Zs4 (hA.thr x hx)
 obtain ⟨l,hl⟩:∃l,ofC p=l:=⟨_,rfl⟩
 rw[hl] at hNl vt hacc
 obtain ⟨T,hT⟩:∃T,T=ZeI p a:=⟨_,rfl⟩
 rw[←hT]
 unfold Zqg ZbP
 rw[Ze,if_pos kt,vt,hl,Ze]
 by_cases h0:a < 0
 ·rw[if_pos (decide_eq_true h0),if_neg (by omega)];exact .leaf
 rw[if_neg (by simpa using h0),Ze]
 by_cases h1:a≥Int.ofNat l.length
 ·rw[if_pos (decide_eq_true h1),if_neg (by simp at h1;omega)];exact .leaf
 obtain ⟨a,rfl⟩:=Int.eq_ofNat_of_zero_le (show 0≤a by omega)
 have ha:a < l.length:=by simp at h1;omega
 rw[if_neg (by simpa using h1),Ze,if_pos (Zas ha),Ze,Int.toNat_natCast]
 have hval:(if (0:Int)≤(a:Int)∧(a:Int) < (l.length:Int) then listOf l.length (backB p l a) else [])=listOf l.length (backB p l a):=if_pos ⟨by omega,by omega⟩
 rw[hval]
 have hown:(List.getD l a (dflt Zb)).1=thA l a:=rfl
 have hnew:Zy (Int.ofNat l.length)=(((l.length:Nat):Int),[]):=by
  unfold Zy
  simp
  omega
 rw[hown,hnew]
 have kb:∀(x:Nat) (come:SetT) (o:List Int) (b:SetT),x < l.length→o.length < 1099511627776→Zf5 (x:Int) l (thA l a) come o (a:Int) b=true:=fun x come o b hx ho=>decide_eq_true ⟨by omega,by omega,by omega,ho⟩
 have fin:∀(C G B:Nat→Bool) (sc sg sb:SetT),SetOK sb l.length B→BInv p l a C G B []→
   (∀c,C c=true→(c:Int)∈([]:List Int)∨∀d,behB p l c d=true→G d=true)→Goes T (.jmp (.l11 l sb.1 [] (thA l a) (a:Int) sb.2 sc.1 sc.2 sg.1 sg.2)) (listOf l.length (backB p l a)):=by
  intro C G B sc sg sb hb hi hp
  rw[Zi,hT,ZeI,←hT,Ze,if_neg (by decide)]
  have hkl:Zbk (sb.1,sb.2)=true:=Nat.ble_eq_true_of_le (by have:=hb.few;unfold limit;show sb.2.length*512≤_;omega)
  rw[Ze,if_pos hkl]
  have hGi:∀d,G d=isB p l a d:=ZPP hi.c (fun d=>⟨hi.g d,fun ⟨c,h1,h2⟩=>(hp c h1).elim (fun h=>by cases h) fun h=>h d h2⟩) hi.s
  have hv:(ZbJ (sb.1,sb.2)).1=listOf l.length (backB p l a):=by
   show listS sb=_
   rw[hb.list (by omega)]
   refine Zsv fun j hj=>?_
   unfold backB
   rw[Bool.eq_iff_iff,hi.b,Bool.and_eq_true,beq_iff_eq,List.any_eq_true]
   constructor
   ·rintro ⟨_,h2,k,hk,h3⟩
    rw[hGi] at hk
    exact ⟨h2,k,List.mem_range.2 (ZQB hk).1,by rw[hk,h3];rfl⟩
   ·rintro ⟨h2,k,_,h3⟩
    rw[Bool.and_eq_true] at h3
    exact ⟨hj,h2,k,by rw[hGi];exact h3.1,h3.2⟩
  rw[hv]
  exact .leaf
 have loop:∀m,∀(C G B:Nat→Bool) (sc sg sb:SetT) (O:List Int),2*(l.length - card l.length C)+O.length≤m→O.length≤card l.length C→SetOK sc l.length C→SetOK sg l.length G→SetOK sb l.length B→BInv p l a C G B O→
   (∀c,C c=true→(c:Int)∈O∨∀d,behB p l c d=true→G d=true)→Goes T (.jmp (.l11 l sb.1 O (thA l a) (a:Int) sb.2 sc.1 sc.2 sg.1 sg.2)) (listOf l.length (backB p l a)):=by
  intro m
  induction m with
  | zero=>
   intro C G B sc sg sb O hm hO1 hc hg hb hi hp
   have:O=[]:=List.eq_nil_of_length_eq_zero (by omega)
   subst this
   exact fin C G B sc sg sb hb hi hp
  | succ m ih=>
   intro C G B sc sg sb O hm hO1 hc hg hb hi hp
   cases O with
   | nil=>exact fin C G B sc sg sb hb hi hp
   | cons x O=>
    obtain ⟨c,rfl,hCc⟩:=hi.o x (by simp)
    have hcl:=((hi.c c).1 hCc).1
    have hcard:= @Ze1 l.length C
    obtain ⟨q1,q2,q3⟩:=hacc c hcl
    have kbh:Zep p l (c:Int)=true:=by
     unfold Zep
     rw[Int.toNat_natCast,q3,decide_eq_true ⟨by omega,by omega,by omega⟩,decide_eq_true ⟨q1,q2⟩];rfl
    have e0:List.getD ((c:Int) :: O) 0 (dflt (.int .i64))=(c:Int):=rfl
    have g1:decide (Int.ofNat ((c:Int) :: O).length > (0:Int))=true:=decide_eq_true (by simp <;> omega)
    have g2:decide ((0:Int) < Int.ofNat ((c:Int) :: O).length)=true:=decide_eq_true (by simp <;> omega)
    have g3:Nat.ble 1 ((c:Int) :: O).length=true:=Nat.ble_eq_true_of_le (by simp)
    rw[Zi,hT,ZeI,←hT,Ze,if_pos g1,Ze,if_pos g2,Ze,if_pos g3,e0,Ze,if_pos kbh]
    obtain ⟨L,hL⟩:∃L,Zb3 p l (c:Int)=L:=⟨_,rfl⟩
    have hLm:∀y,y∈L↔∃d:Nat,d < l.length∧behB p l c d=true∧y=(d:Int):=fun y=>by rw[←hL];unfold Zb3;rw[Int.toNat_natCast];exact Zcv
    have hLl:L.length≤l.length:=by rw[←hL];unfold Zb3;rw[Zh2];exact Ze1
    rw[hL,show List.drop 1 ((c:Int) :: O)=O from rfl]
    have inner:∀h,h≤L.length→∀(C G B:Nat→Bool) (sc sg sb:SetT) (O:List Int),2*(l.length - card l.length C)+O.length≤m→O.length≤card l.length C→SetOK sc l.length C→SetOK sg l.length G→SetOK sb l.length B→BInv p l a C G B O→C c=true→
      (∀c',C c'=true→c'≠c→(c':Int)∈O∨∀d,behB p l c' d=true→G d=true)→(∀d,behB p l c d=true→G d=true∨(d:Int)∈L.drop h)→
      Goes T (.jmp (.l17 (Int.ofNat L.length) l L sb.1 O (thA l a) (a:Int) sb.2 sc.1 sc.2 (h:Int) sg.1 sg.2)) (listOf l.length (backB p l a)):=by
     refine down ?_ fun h hh ih2=>?_
     ·intro C G B sc sg sb O hm hO1 hc hg hb hi hCc hp hcur
      rw[Zi,hT,ZeI,←hT,Ze,if_neg (by simp)]
      refine ih C G B sc sg sb O hm hO1 hc hg hb hi fun c' hc'=>?_
      by_cases e:c'=c
      ·subst e
       right
       intro d hd
       rcases hcur d hd with h1 | h1
       ·exact h1
       ·rw[List.drop_length] at h1;cases h1
      ·exact hp c' hc' e
     ·intro C G B sc sg sb O hm hO1 hc hg hb hi hCc hp hcur
      obtain ⟨d,hd,hbd,hde⟩:=(hLm L[h]).1 (List.getElem_mem hh)
      have hcard:= @Ze1 l.length C
      obtain ⟨p1,p2⟩:=hg.putO (by omega) hd
      have hput:Zq (sg.1,sg.2) (d:Int)=putS sg (d:Int):=rfl
      have hkb:=kb d (sc.1,sc.2) O (sb.1,sb.2) hd (by omega)
      rw[Zi,hT,ZeI,←hT,Ze,if_pos (ZQ hh),Ze,if_pos (Zas hh),Int.toNat_natCast,ZG hh,hde,hput,Zs (by omega),Ze]
      have hdrop:=ZN hh
      cases hGd:G d with
      | true=>
       rw[hGd] at p1
       rw[if_neg (by rw[p1];decide)]
       have e:∀k,(G k || (k==d))=G k:=fun k=>by
        by_cases hk:k=d
        ·subst hk;rw[hGd];rfl
        ·have:(k==d)=false:=by simpa using hk
         rw[this,Bool.or_false]
       refine ih2 C G B sc _ sb O hm hO1 hc (p2.congr' e) hb hi hCc hp fun d' hd'=>?_
       rcases hcur d' hd' with h1 | h1
       ·exact .inl h1
       ·rw[hdrop] at h1
        rcases List.mem_cons.1 h1 with h1 | h1
        ·rw[hde] at h1
         have:d'=d:=by omega
         subst this
         exact .inl hGd
        ·exact .inr h1
      | false=>
       rw[hGd] at p1
       rw[if_pos (by rw[p1];rfl),Ze,if_pos hkb]
       obtain ⟨C',B',b1,b2,b3,b4,b5,b6,b7,b8⟩:=ZGh (l:=l) (x:=d) (own:=thA l a) (a:=(a:Int)) l.length 0 (sc,O,sb) C B (by omega) (by omega) hc hb
       have hv:ZW (d:Int) l (thA l a) (sc.1,sc.2) O (a:Int) (sb.1,sb.2)=(l,thA l a,(meetF l (d:Int) (thA l a) (a:Int) (List.range' 0 l.length) (sc,O,sb)).1,(meetF l (d:Int) (thA l a) (a:Int) (List.range' 0 l.length) (sc,O,sb)).2.1,(a:Int),(meetF l (d:Int) (thA l a) (a:Int) (List.range' 0 l.length) (sc,O,sb)).2.2):=rfl
       rw[hv]
       generalize meetF l (d:Int) (thA l a) (a:Int) (List.range' 0 l.length) (sc,O,sb)=R at*
       have hi':=hi.meet (O':=R.2.1) hCc hbd hd b3 b4 b6
       have hcl2:= @Ze1 l.length C'
       simp only at b5 b6 b7 b8
       have b8':R.2.1.length+card l.length C=O.length+card l.length C':=b8
       have hcm:card l.length C≤card l.length C':=ZIR fun j h=>(b3 j).2 (.inl h)
       have m1:2*(l.length - card l.length C')+R.2.1.length≤m:=by omega
       have m2:R.2.1.length≤card l.length C':=by omega
       refine ih2 C' _ B' R.1 _ R.2.2 R.2.1 m1 m2 b1 p2 b2 hi' ((b3 c).2 (.inl hCc)) (fun c' hc' hne=>?_) fun d' hd'=>?_
       ·rcases b7 c' hc' with h1 | h1
        ·rcases hp c' h1 hne with h2 | h2
         ·exact .inl (b5 _ h2)
         ·exact .inr fun d'' hd''=>by rw[h2 d'' hd''];rfl
        ·exact .inl h1
       ·rcases hcur d' hd' with h1 | h1
        ·left;rw[h1];rfl
        ·rw[hdrop] at h1
         rcases List.mem_cons.1 h1 with h1 | h1
         ·rw[hde] at h1
          have:d'=d:=by omega
          subst this
          left;simp
         ·exact .inr h1
    refine inner 0 (Nat.zero_le _) C G B sc sg sb O (by simp at hm;omega) (by simp at hO1;omega) hc hg hb ⟨hi.c,hi.g,fun y hy=>hi.o y (List.mem_cons_of_mem _ hy),hi.b,hi.s⟩ hCc (fun c' hc' hne=>?_) fun d hd=>?_
    ·rcases hp c' hc' with h1 | h1
     ·rcases List.mem_cons.1 h1 with h1 | h1
      ·exact absurd (by omega) hne
      ·exact .inl h1
     ·exact .inr h1
    ·exact .inr (by rw[List.drop_zero];exact (hLm _).2 ⟨d,(ZNZ hd).1,hd,rfl⟩)
 rw[if_pos (kb a _ [] _ ha (by simp))]
 obtain ⟨C',B',b1,b2,b3,b4,b5,b6,b7,b8⟩:=ZGh (l:=l) (x:=a) (own:=thA l a) (a:=(a:Int)) l.length 0 ((((l.length:Nat):Int),[]),[],(((l.length:Nat):Int),[])) (fun _=>false) (fun _=>false) (by omega) (by omega) (SetOK.new _) (SetOK.new _)
 have hv:ZW (a:Int) l (thA l a) (((l.length:Nat):Int),[]) [] (a:Int) (((l.length:Nat):Int),[])=(l,thA l a,(meetF l (a:Int) (thA l a) (a:Int) (List.range' 0 l.length) ((((l.length:Nat):Int),[]),[],(((l.length:Nat):Int),[]))).1,(meetF l (a:Int) (thA l a) (a:Int) (List.range' 0 l.length) ((((l.length:Nat):Int),[]),[],(((l.length:Nat):Int),[]))).2.1,(a:Int),(meetF l (a:Int) (thA l a) (a:Int) (List.range' 0 l.length) ((((l.length:Nat):Int),[]),[],(((l.length:Nat):Int),[]))).2.2):=rfl
 rw[hv]
 generalize meetF l (a:Int) (thA l a) (a:Int) (List.range' 0 l.length) ((((l.length:Nat):Int),[]),[],(((l.length:Nat):Int),[]))=R at*
 simp only at b5 b6 b7 b8
 have hcl2:= @Ze1 l.length C'
 have h00:card l.length (fun _=>false)=0:=by unfold card;simp
 rw[h00] at b8
 refine loop _ C' (fun _=>false) B' R.1 (((l.length:Nat):Int),[]) R.2.2 R.2.1 (Nat.le_refl _) (by simp at b8;omega) b1 (SetOK.new _) b2 ⟨fun c=>?_,fun d hd=>(by cases hd),fun y hy=>?_,fun b=>?_,fun d hd=>(by cases hd)⟩ fun c hc=>?_
 ·rw[b3]
  constructor
  ·rintro (h | ⟨_,h1,h2,h3⟩)
   ·cases h
   ·exact ⟨by omega,h3,.inl h2⟩
  ·rintro ⟨h1,h2,h3 | ⟨k,hk,_⟩⟩
   ·exact .inr ⟨Nat.zero_le _,by omega,h3,h2⟩
   ·cases hk
 ·rcases b6 y hy with h | h
  ·cases h
  ·exact h
 ·rw[b4]
  constructor
  ·rintro (h | ⟨_,_,_,_,h⟩)
   ·cases h
   ·exact absurd rfl h
  ·rintro ⟨_,_,k,hk,_⟩
   cases hk
 ·rcases b7 c hc with h | h
  ·cases h
  ·exact .inl h
end Go.Ev
end

section
open Go Go.Ev
namespace Go.Ev
noncomputable section
noncomputable def ZxP:Run:=entG ZfE Znf (fun a=>Zhy a.1 a.2.1) (fun a=>ZbP a.1 a.2.1)
theorem ZGb:EntOK Go.Proofs.Tryz.prog 47 ZxP:=ZJ (tb:=Zqh) (c:=Zmi) ZEb (by kernel_rfl) (by kernel_rfl) (by kernel_rfl) (fun a=>by kernel_rfl) fun ⟨p,a,_⟩ hk=>Zn (c:=Zmi) (K:=fun v=>(Znf v,tps (toForms ZfE (p,a,())))) (S:=Zfd p a) (by kernel_rfl) (ZE3 p a) (ZD9 p a) (ZHC p a hk)
end
end Go.Ev
end

section
open Go Go.Ev
namespace Go.Ev
noncomputable section
def dpB:Code:=Go.Proofs.Tryz.f25.body.getD .skip
def lpR1 (K:Code):Code:=fstC (innC (innC K))
def lpB (K:Code):Code:=innC (fstC (sndC (sndC (innC (innC K)))))
def lpR2 (K:Code):Code:=sndC (sndC (sndC (innC (innC K))))
def dp0:Code:=fstC dpB
def dp1:Code:=fstC (sndC dpB)
def dp2:Code:=fstC (sndC (sndC dpB))
def dp3:Code:=fstC (fstC (sndC (sndC (sndC dpB))))
def dpK0:Code:=sndC (fstC (sndC (sndC (sndC dpB))))
def dpE:Code:=fstC (sndC (sndC (sndC (sndC dpB))))
def dpT:Tbl:=[(41,Zxm),(42,ZvI),(43,ZkO),(44,ZuJ),(45,ZcY),(46,Zf6),(47,ZxP)]
theorem ZQd:∀p∈dpT,EntOK Go.Proofs.Tryz.prog p.1 p.2:=Zg ZBk (Zg ZCH (Zg ZlQ (Zg ZxO (Zg Zcc (Zg ZeN (Zg ZGb (Zu)))))))
theorem ZQu:dpB=.seq dp0 (.seq dp1 (.seq dp2 (.seq (.seq dp3 dpK0) (.seq dpE .ret)))):=by kernel_rfl
theorem ZPK:dpK0=.block 0 (.loop (.seq (lpR1 dpK0) (.seq (.cond (.tmp 23) .skip (.exit 0)) (.seq (.block 1 (lpB dpK0)) (lpR2 dpK0))))):=by kernel_rfl
def dp4:Code:=fstC (lpB dpK0)
def dp5:Code:=fstC (sndC (lpB dpK0))
def dp6:Code:=fstC (sndC (sndC (lpB dpK0)))
def dpK2:Code:=sndC (sndC (sndC (lpB dpK0)))
theorem ZP1:lpB dpK0=.seq dp4 (.seq (.region (ridC dp5) (ropsC dp5) false) (.seq dp6 dpK2)):=by kernel_rfl
theorem ZPJ:dpK2=.block 2 (.loop (.seq (lpR1 dpK2) (.seq (.cond (.tmp 32) .skip (.exit 2)) (.seq (.block 3 (lpB dpK2)) (lpR2 dpK2))))):=by kernel_rfl
def dp7:Code:=fstC (lpB dpK2)
def dp8:Code:=fstC (sndC (lpB dpK2))
def dp9:Code:=fstC (fstC (sndC (sndC (lpB dpK2))))
def dpK4:Code:=sndC (fstC (sndC (sndC (lpB dpK2))))
def dp10:Code:=fstC (sndC (sndC (sndC (lpB dpK2))))
def dpK6:Code:=sndC (sndC (sndC (sndC (lpB dpK2))))
theorem ZPG:lpB dpK2=.seq dp7 (.seq dp8 (.seq (.seq dp9 dpK4) (.seq dp10 dpK6))):=by kernel_rfl
theorem ZP4:dpK4=.block 4 (.loop (.seq (lpR1 dpK4) (.seq (.cond (.tmp 56) .skip (.exit 4)) (.seq (.block 5 (lpB dpK4)) (lpR2 dpK4))))):=by kernel_rfl
theorem ZP6:dpK6=.block 6 (.loop (.seq (lpR1 dpK6) (.seq (.cond (.tmp 68) .skip (.exit 6)) (.seq (.block 7 (lpB dpK6)) (lpR2 dpK6))))):=by kernel_rfl
def dp11:Code:=fstC (lpB dpK6)
def dp12:Code:=fstC (fstC (sndC (lpB dpK6)))
def dpX1:Code:=fstC (sndC (sndC (lpB dpK6)))
def dp13:Code:=fstC dpX1
def dpY:Code:=thenC (sndC dpX1)
def dp14:Code:=fstC dpY
def dp15:Code:=fstC (sndC dpY)
def dpK8:Code:=sndC (sndC dpY)
def dp16:Code:=fstC (sndC (sndC (sndC (lpB dpK6))))
def dp17:Code:=thenC (sndC (sndC (sndC (sndC (lpB dpK6)))))
theorem ZP2:lpB dpK6=.seq dp11 (.seq (.seq dp12 (.cond (.tmp 78) (.exit 7) .skip)) (.seq (.seq (.region (ridC dp13) (ropsC dp13) false) (.cond (.tmp 82) (.seq (.region (ridC dp14) (ropsC dp14) false) (.seq dp15 dpK8)) .skip)) (.seq (.region (ridC dp16) (ropsC dp16) false) (.cond (.tmp 106) dp17 .skip)))):=by kernel_rfl
theorem ZQb:dpK8=.block 8 (.loop (.seq (lpR1 dpK8) (.seq (.cond (.tmp 93) .skip (.exit 8)) (.seq (.block 9 (lpB dpK8)) (lpR2 dpK8))))):=by kernel_rfl
def dp18:Code:=fstC (lpB dpK8)
def dp19:Code:=sndC (lpB dpK8)
theorem ZPN:lpB dpK8=.seq dp18 (.region (ridC dp19) (ropsC dp19) false):=by kernel_rfl
abbrev SetD:=Int×List (El (.int .i64)×El (.int .u64))
def dObP (p:El Zc):Id×Nat×Obj:=(2,0,.box 27 [.d (.sl Zx) p.1,.d (.sl (.sl Za)) p.2] none)
def dObO (out:List (El Zd)):Id×Nat×Obj:=(5,0,.row 67 Zd out false)
def stA (p:El Zc) (l:List (El Zb)) (out:List (El Zd)) (t:Int):St:=
 ⟨mkTm 126 [(1,.pt 2 0 0),(3,.d (.sl Zb) l),(4,.own 5 0 none),(21,.d (.int .i64) (Int.ofNat (List.length p.2))),(22,.d (.int .i64) t)],[dObP p,dObO out]⟩
def labA:Lab:=⟨[1,3,4,21,22],[(5,122)]⟩
def stA5 (p:El Zc) (l:List (El Zb)) (out:List (El Zd)) (t:Int):St:=
 ⟨mkTm 126 [(1,.pt 2 0 0),(3,.d (.sl Zb) l),(4,.own 5 0 none),(5,.d (.int .i64) t),(21,.d (.int .i64) (Int.ofNat (List.length p.2))),(22,.d (.int .i64) t)],[dObP p,dObO out]⟩
def labA5:Lab:=⟨[1,3,4,5,21,22],[(5,122)]⟩
def stB (p:El Zc) (l:List (El Zb)) (out:List (El Zd)) (t:Int) (m:Nat) (ss:List Int) (k:Int):St:=
 ⟨mkTm 126 [(1,.pt 2 0 0),(3,.d (.sl Zb) l),(4,.own 5 0 none),(5,.d (.int .i64) t),(7,.cst (.map (some m))),(21,.d (.int .i64) (Int.ofNat (List.length p.2))),(22,.d (.int .i64) t),(29,.own 30 0 none),(30,.d (.int .i64) (Int.ofNat (List.length ss))),(31,.d (.int .i64) k)],[dObP p,dObO out,(30,0,.row 3 (.int .i64) ss false)]⟩
def labB:Lab:=⟨[1,3,4,5,7,21,22,29,30,31],[(5,122)]⟩
def stB9 (p:El Zc) (l:List (El Zb)) (out:List (El Zd)) (t:Int) (m:Nat) (ss:List Int) (k s:Int):St:=
 ⟨mkTm 126 [(1,.pt 2 0 0),(3,.d (.sl Zb) l),(4,.own 5 0 none),(5,.d (.int .i64) t),(7,.cst (.map (some m))),(9,.d (.int .i64) s),(21,.d (.int .i64) (Int.ofNat (List.length p.2))),(22,.d (.int .i64) t),(29,.own 30 0 none),(30,.d (.int .i64) (Int.ofNat (List.length ss))),(31,.d (.int .i64) k)],[dObP p,dObO out,(30,0,.row 3 (.int .i64) ss false)]⟩
def labB9:Lab:=⟨[1,3,4,5,7,9,21,22,29,30,31],[(5,122)]⟩
def stB10 (p:El Zc) (l:List (El Zb)) (out:List (El Zd)) (t:Int) (m:Nat) (ss:List Int) (k s:Int) (fr:SetD):St:=
 ⟨mkTm 126 [(1,.pt 2 0 0),(3,.d (.sl Zb) l),(4,.own 5 0 none),(5,.d (.int .i64) t),(7,.cst (.map (some m))),(9,.d (.int .i64) s),(10,.pt 11 0 0),(21,.d (.int .i64) (Int.ofNat (List.length p.2))),(22,.d (.int .i64) t),(29,.own 30 0 none),(30,.d (.int .i64) (Int.ofNat (List.length ss))),(31,.d (.int .i64) k)],[dObP p,dObO out,(11,0,.box 103 [.d (.int .i64) fr.1,.mp 11266 0] none),(30,0,.row 3 (.int .i64) ss false),(11266,0,.map (.int .i64) (.int .u64) fr.2)]⟩
def labB10:Lab:=⟨[1,3,4,5,7,9,10,21,22,29,30,31],[(5,122)]⟩
def stC (p:El Zc) (l:List (El Zb)) (out:List (El Zd)) (t:Int) (m:Nat) (ss:List Int) (k s:Int) (fr:SetD) (fs:List Int) (j:Int):St:=
 ⟨mkTm 126 [(1,.pt 2 0 0),(3,.d (.sl Zb) l),(4,.own 5 0 none),(5,.d (.int .i64) t),(7,.cst (.map (some m))),(9,.d (.int .i64) s),(10,.pt 11 0 0),(21,.d (.int .i64) (Int.ofNat (List.length p.2))),(22,.d (.int .i64) t),(29,.own 30 0 none),(30,.d (.int .i64) (Int.ofNat (List.length ss))),(31,.d (.int .i64) k),(53,.own 54 0 none),(54,.d (.int .i64) (Int.ofNat (List.length fs))),(55,.d (.int .i64) j)],[dObP p,dObO out,(11,0,.box 103 [.d (.int .i64) fr.1,.mp 11266 0] none),(30,0,.row 3 (.int .i64) ss false),(54,0,.row 3 (.int .i64) fs false),(11266,0,.map (.int .i64) (.int .u64) fr.2)]⟩
def labC:Lab:=⟨[1,3,4,5,7,9,10,21,22,29,30,31,53,54,55],[(5,122)]⟩
def stD (p:El Zc) (l:List (El Zb)) (out:List (El Zd)) (t:Int) (m:Nat) (ss:List Int) (k s:Int) (fr:SetD) (ls:List Int) (j:Int):St:=
 ⟨mkTm 126 [(1,.pt 2 0 0),(3,.d (.sl Zb) l),(4,.own 5 0 none),(5,.d (.int .i64) t),(7,.cst (.map (some m))),(9,.d (.int .i64) s),(10,.pt 11 0 0),(21,.d (.int .i64) (Int.ofNat (List.length p.2))),(22,.d (.int .i64) t),(29,.own 30 0 none),(30,.d (.int .i64) (Int.ofNat (List.length ss))),(31,.d (.int .i64) k),(65,.own 66 0 none),(66,.d (.int .i64) (Int.ofNat (List.length ls))),(67,.d (.int .i64) j)],[dObP p,dObO out,(11,0,.box 103 [.d (.int .i64) fr.1,.mp 11266 0] none),(30,0,.row 3 (.int .i64) ss false),(66,0,.row 3 (.int .i64) ls false),(11266,0,.map (.int .i64) (.int .u64) fr.2)]⟩
def labD:Lab:=⟨[1,3,4,5,7,9,10,21,22,29,30,31,65,66,67],[(5,122)]⟩
def stD14 (p:El Zc) (l:List (El Zb)) (out:List (El Zd)) (t:Int) (m:Nat) (ss:List Int) (k s:Int) (fr:SetD) (ls:List Int) (j r:Int):St:=
 ⟨mkTm 126 [(1,.pt 2 0 0),(3,.d (.sl Zb) l),(4,.own 5 0 none),(5,.d (.int .i64) t),(7,.cst (.map (some m))),(9,.d (.int .i64) s),(10,.pt 11 0 0),(14,.d (.int .i64) r),(21,.d (.int .i64) (Int.ofNat (List.length p.2))),(22,.d (.int .i64) t),(29,.own 30 0 none),(30,.d (.int .i64) (Int.ofNat (List.length ss))),(31,.d (.int .i64) k),(65,.own 66 0 none),(66,.d (.int .i64) (Int.ofNat (List.length ls))),(67,.d (.int .i64) j)],[dObP p,dObO out,(11,0,.box 103 [.d (.int .i64) fr.1,.mp 11266 0] none),(30,0,.row 3 (.int .i64) ss false),(66,0,.row 3 (.int .i64) ls false),(11266,0,.map (.int .i64) (.int .u64) fr.2)]⟩
def labD14:Lab:=⟨[1,3,4,5,7,9,10,14,21,22,29,30,31,65,66,67],[(5,122)]⟩
def stE (p:El Zc) (l:List (El Zb)) (out:List (El Zd)) (t:Int) (m:Nat) (ss:List Int) (k s:Int) (fr:SetD) (ls:List Int) (j r:Int) (bs:List Int) (i:Int):St:=
 ⟨mkTm 126 [(1,.pt 2 0 0),(3,.d (.sl Zb) l),(4,.own 5 0 none),(5,.d (.int .i64) t),(7,.cst (.map (some m))),(9,.d (.int .i64) s),(10,.pt 11 0 0),(14,.d (.int .i64) r),(21,.d (.int .i64) (Int.ofNat (List.length p.2))),(22,.d (.int .i64) t),(29,.own 30 0 none),(30,.d (.int .i64) (Int.ofNat (List.length ss))),(31,.d (.int .i64) k),(65,.own 66 0 none),(66,.d (.int .i64) (Int.ofNat (List.length ls))),(67,.d (.int .i64) j),(90,.own 91 0 none),(91,.d (.int .i64) (Int.ofNat (List.length bs))),(92,.d (.int .i64) i)],[dObP p,dObO out,(11,0,.box 103 [.d (.int .i64) fr.1,.mp 11266 0] none),(30,0,.row 3 (.int .i64) ss false),(66,0,.row 3 (.int .i64) ls false),(91,0,.row 3 (.int .i64) bs false),(11266,0,.map (.int .i64) (.int .u64) fr.2)]⟩
def labE:Lab:=⟨[1,3,4,5,7,9,10,14,21,22,29,30,31,65,66,67,90,91,92],[(5,122)]⟩
end
end Go.Ev
end

section
open Go Go.Ev
namespace Go.Ev
noncomputable section
abbrev dEv (c:Code) (lab:Lab) (s s':St):Prop:=∀(L:Lt) (k:Kt) (x:Nat→Kt) (r:Kt),evC Go.Proofs.Tryz.prog (clOf dpT) [] L c 0 (fun t=>k (norm Go.Proofs.Tryz.prog lab t)) x r s=k s'
abbrev dEvI (c:Code) (s s':St):Prop:=∀(L:Lt) (k:Kt) (x:Nat→Kt) (r:Kt),evC Go.Proofs.Tryz.prog (clOf dpT) [] L c 0 (fun t=>k t) x r s=k s'
abbrev dEvG (c:Code) (lab:Lab) (s s':St) (b:Bool):Prop:=∀(L:Lt) (k:Kt) (x:Nat→Kt) (r:Kt),evC Go.Proofs.Tryz.prog (clOf dpT) [] L c 0 (fun t=>k (norm Go.Proofs.Tryz.prog lab t)) x r s=bif b then k s' else none
theorem dEvG.ok {c:Code} {lab:Lab} {s s':St} {b:Bool} (h:dEvG c lab s s' b) (hb:b=true):dEv c lab s s':=fun L k x r=>by rw[h,hb];rfl
section
variable (p:El Zc) (l:List (El Zb)) (out:List (El Zd)) (t:Int) (m:Nat) (ss:List Int) (k s:Int) (fr:SetD) (fs:List Int) (j:Int) (ls:List Int) (r:Int) (bs:List Int) (i:Int) (b:Bool)
def dS0:St:=⟨.ag [.d (.sl Zx) p.1,.d (.sl (.sl Za)) p.2] :: tops 125,[]⟩
def dS1:St:=⟨mkTm 126 [(1,.pt 2 0 0)],[dObP p]⟩
def dS2:St:=⟨mkTm 126 [(1,.pt 2 0 0),(3,.d (.sl Zb) l)],[dObP p]⟩
def dS3:St:=⟨mkTm 126 [(1,.pt 2 0 0),(3,.d (.sl Zb) l),(4,.own 5 0 none)],[dObP p,dObO []]⟩
@[reducible] def inB (i:Int) (n:Nat):Bool:=decide ((0:Int)≤i)&&decide (i < Int.ofNat n)
theorem dp_0:dEv dp0 ⟨[1],[]⟩ (dS0 p) (dS1 p):=fun L k x r=>by kernel_rfl
theorem dp_1:dEvG dp1 ⟨[1,3],[]⟩ (dS1 p) (dS2 p (ZA p)) (Zor p):=fun L k x r=>by kernel_rfl
theorem dp_2:dEv dp2 ⟨[1,3,4],[(5,122)]⟩ (dS2 p l) (dS3 p l):=fun L k x r=>by kernel_rfl
theorem dp_3:dEv dp3 labA (dS3 p l) (stA p l [] 0):=fun L k x r=>by kernel_rfl
theorem ZQN:dEvI (lpR1 dpK0) (stA p l out t) ((stA p l out t).put (some 23) (.d .bool (decide (t < Int.ofNat (List.length p.2))))):=fun L k x r=>by kernel_rfl
theorem dp_4:dEv dp4 labA5 ((stA p l out t).put (some 23) (.d .bool b)) (stA5 p l out t):=fun L k x r=>by kernel_rfl
theorem ZQF:dEvI (lpR1 dpK2) (stB p l out t m ss k) ((stB p l out t m ss k).put (some 32) (.d .bool (decide (k < Int.ofNat (List.length ss))))):=fun L k x r=>by kernel_rfl
theorem dp_7:dEvG dp7 labB9 ((stB p l out t m ss k).put (some 32) (.d .bool b)) (stB9 p l out t m ss k (List.getD ss (Int.toNat k) (dflt (.int .i64)))) (inB k (List.length ss)):=fun L k x r=>by kernel_rfl
theorem dp_8:dEvG dp8 labB10 (stB9 p l out t m ss k s) (stB10 p l out t m ss k s (Zy (Int.ofNat (List.length (List.getD p.2 (Int.toNat t) (dflt (.sl Za))))))) (inB t (List.length p.2)):=fun L k x r=>by kernel_rfl
theorem dp_9:dEvG dp9 labC (stB10 p l out t m ss k s fr) (stC p l out t m ss k s fr (Zby (List.getD p.2 (Int.toNat t) (dflt (.sl Za))) (List.getD l (Int.toNat s) (dflt Zb)).2.1) 0) (bif inB t (List.length p.2) then (bif inB s (List.length l) then Zim (List.getD p.2 (Int.toNat t) (dflt (.sl Za))) (List.getD l (Int.toNat s) (dflt Zb)).2.1 else false) else false):=fun L k x r=>by
 rw[show ∀(a b c:Bool) (u:Option Ans),(bif (bif a then (bif b then c else false) else false) then u else none)=(bif a then (bif b then (bif c then u else none) else none) else none) from fun a b c u=>by cases a <;> cases b <;> rfl]
 kernel_rfl
theorem ZQI:dEvI (lpR1 dpK4) (stC p l out t m ss k s fr fs j) ((stC p l out t m ss k s fr fs j).put (some 56) (.d .bool (decide (j < Int.ofNat (List.length fs))))):=fun L k x r=>by kernel_rfl
theorem ZQW:dEvG (lpB dpK4) labC ((stC p l out t m ss k s fr fs j).put (some 56) (.d .bool b)) (stC p l out t m ss k s (Zq fr (List.getD fs (Int.toNat j) (dflt (.int .i64)))).2 fs j) (inB j (List.length fs)):=fun L k x r=>by kernel_rfl
theorem ZQV:dEv (lpR2 dpK4) labC (stC p l out t m ss k s fr fs j) (stC p l out t m ss k s fr fs (IntKind.i64.wrap (j+1))):=fun L k x r=>by kernel_rfl
theorem ZQ2:dEvG dp10 labD ((stC p l out t m ss k s fr fs j).put (some 56) (.d .bool b)) (stD p l out t m ss k s fr (ZR l t false) 0) (ZdO l t false):=fun L k x r=>by kernel_rfl
theorem ZQ4:dEvI (lpR1 dpK6) (stD p l out t m ss k s fr ls j) ((stD p l out t m ss k s fr ls j).put (some 68) (.d .bool (decide (j < Int.ofNat (List.length ls))))):=fun L k x r=>by kernel_rfl
theorem ZQH:dEvG dp11 labD14 ((stD p l out t m ss k s fr ls j).put (some 68) (.d .bool b)) (stD14 p l out t m ss k s fr ls j (List.getD ls (Int.toNat j) (dflt (.int .i64)))) (inB j (List.length ls)):=fun L k x r=>by kernel_rfl
def labD78:Lab:=⟨[1,3,4,5,7,9,10,14,21,22,29,30,31,65,66,67,78],[(5,122)]⟩
theorem ZQ3:dEvG dp12 labD78 (stD14 p l out t m ss k s fr ls j r) ((stD14 p l out t m ss k s fr ls j r).put (some 78) (.d .bool (! (Zp fr (List.getD l (Int.toNat r) (dflt Zb)).2.1).1))) (inB r (List.length l)):=fun L k x r=>by kernel_rfl
theorem dn_D:norm Go.Proofs.Tryz.prog labD ((stD14 p l out t m ss k s fr ls j r).put (some 78) (.d .bool b))=stD p l out t m ss k s fr ls j:=by kernel_rfl
theorem ZQf:norm Go.Proofs.Tryz.prog labD14 ((stD14 p l out t m ss k s fr ls j r).put (some 78) (.d .bool b))=stD14 p l out t m ss k s fr ls j r:=by kernel_rfl
theorem ZQX:dEv (lpR2 dpK6) labD (stD p l out t m ss k s fr ls j) (stD p l out t m ss k s fr ls (IntKind.i64.wrap (j+1))):=fun L k x r=>by kernel_rfl
theorem ZQG:dEvG dp15 labE (stD14 p l out t m ss k s fr ls j r) (stE p l out t m ss k s fr ls j r (ZbP p r) 0) (Zhy p r):=fun L k x r=>by kernel_rfl
theorem ZQ1:dEvI (lpR1 dpK8) (stE p l out t m ss k s fr ls j r bs i) ((stE p l out t m ss k s fr ls j r bs i).put (some 93) (.d .bool (decide (i < Int.ofNat (List.length bs))))):=fun L k x r=>by kernel_rfl
def labE16:Lab:=⟨[1,3,4,5,7,9,10,14,16,21,22,29,30,31,65,66,67,90,91,92],[(5,122)]⟩
theorem ZQZ:dEvG dp18 labE16 ((stE p l out t m ss k s fr ls j r bs i).put (some 93) (.d .bool b)) ((stE p l out t m ss k s fr ls j r bs i).put (some 16) (.d (.int .i64) (List.getD bs (Int.toNat i) (dflt (.int .i64))))) (inB i (List.length bs)):=fun L k x r=>by kernel_rfl
theorem ZQR:dEv (lpR2 dpK8) labE (stE p l out t m ss k s fr ls j r bs i) (stE p l out t m ss k s fr ls j r bs (IntKind.i64.wrap (i+1))):=fun L k x r=>by kernel_rfl
theorem ZQA:norm Go.Proofs.Tryz.prog labD14 ((stE p l out t m ss k s fr ls j r bs i).put (some 93) (.d .bool b))=stD14 p l out t m ss k s fr ls j r:=by kernel_rfl
theorem ZQP:dEv (lpR2 dpK2) labB ((stD p l out t m ss k s fr ls j).put (some 68) (.d .bool b)) (stB p l out t m ss (IntKind.i64.wrap (k+1))):=fun L k x r=>by kernel_rfl
theorem ZQL:dEv (lpR2 dpK0) labA ((stB p l out t m ss k).put (some 32) (.d .bool b)) (stA p l out (IntKind.i64.wrap (t+1))):=fun L k x r=>by kernel_rfl
end
end
end Go.Ev
end

section
open Go Go.Ev
namespace Go.Ev
noncomputable section
section
variable [Orgs] {Mod F0:Nat→Prop} {w0:World} {h:HS} {a:Act} {w:World} {Q:Exit→Act→World→Prop}
variable {p:El Zc} {l:List (El Zb)} {out:List (El Zd)} {t:Int} {m:Nat} {ss:List Int} {k s:Int} {fr:SetD} {fs:List Int} {j:Int} {ls:List Int} {r:Int} {bs:List Int} {i x:Int} {b:Bool}
theorem dcl:Spec Go.Proofs.Tryz.prog (clOf dpT)∧DetC (clOf dpT):=ZqL ZQd
abbrev dProg:Program:=Go.Proofs.Tryz.prog
def cOf (o:Oper):Call:=match o.op with |.call c=>c | _=>default
def st5a (p:El Zc) (l:List (El Zb)) (out:List (El Zd)) (t:Int):St:=((stA5 p l out t).put (some 25) (.d (.sl Zb) l)).put (some 26) (.d (.int .i64) t)
def st5b (p:El Zc) (l:List (El Zb)) (out:List (El Zd)) (t:Int) (ss:List Int):St:=((st5a p l out t).setOb 28 0 (.row 3 (.int .i64) ss false)).put (some 27) (.own 28 0 none)
def st5c (p:El Zc) (l:List (El Zb)) (out:List (El Zd)) (t:Int) (ss:List Int) (m:Nat):St:=(((st5b p l out t ss).put (some 28) (.cst (.map (some m)))).put (some 6) (.own 28 0 none)).put (some 7) (.cst (.map (some m)))
theorem ZQY (k:St→Option Ans):opA dProg (clOf dpT) (opC dp5 2) (st5a p l out t) k=bif ZdO l t true then k (st5b p l out t (ZR l t true)) else none:=by kernel_rfl
theorem dp_6:dEv dp6 labB (st5c p l out t ss m) (stB p l out t m ss 0):=fun L k x r=>by kernel_rfl
theorem w_5 (hk:ZdO l t true=true) (hr:Rel Mod F0 w0 (stA5 p l out t) a w) (hQ:∀m a' w',RelH 103 Mod F0 w0 ⟨m,[]⟩ (st5c p l out t (ZR l t true) m) a' w'→Q .normal a' w'):(Code.region (ridC dp5) (ropsC dp5) false).wp dProg Q a w:=by
 refine wp_region ?_
 rw[show List.range (ropsC dp5).size=[0,1,2,3,4,5] from by kernel_rfl]
 refine evOp dcl.1 (o:=opC dp5 0) (st1:=(stA5 p l out t).put (some 25) (.d (.sl Zb) l)) (by kernel_rfl) (by kernel_rfl) (fun k=>by kernel_rfl) hr fun a w hr=>?_
 refine evOp dcl.1 (o:=opC dp5 1) (st1:=st5a p l out t) (by kernel_rfl) (by kernel_rfl) (fun k=>by kernel_rfl) hr fun a w hr=>?_
 refine evOp dcl.1 (o:=opC dp5 2) (st1:=st5b p l out t (ZR l t true)) (by kernel_rfl) (by kernel_rfl) (fun k=>by rw[ZQY,hk];rfl) hr fun a w hr=>?_
 refine handOp (o:=opC dp5 3) (by kernel_rfl) (by kernel_rfl) ?_
 refine makeMapH (T:=103) (TM:=79) (by kernel_rfl) hr fun m a w hr=>?_
 rw[show (opC dp5 3).dst=some 28 from by kernel_rfl] at hr
 refine evOpH dcl.1 (o:=opC dp5 4) (st1:=((st5b p l out t (ZR l t true)).put (some 28) (.cst (.map (some m)))).put (some 6) (.own 28 0 none)) (by kernel_rfl) (by kernel_rfl) (fun k=>by kernel_rfl) hr fun a w hr=>?_
 refine evOpH dcl.1 (o:=opC dp5 5) (st1:=st5c p l out t (ZR l t true) m) (by kernel_rfl) (by kernel_rfl) (fun k=>by kernel_rfl) hr fun a w hr=>?_
 exact hQ m a w hr
def st13 (p:El Zc) (l:List (El Zb)) (out:List (El Zd)) (t:Int) (m:Nat) (ss:List Int) (k s:Int) (fr:SetD) (ls:List Int) (j r:Int) (v:Value) (b:Bool):St:=
 ((((stD14 p l out t m ss k s fr ls j r).put (some 79) (.cst (.map (some m)))).put (some 80) (.d (.int .i64) r)).put (some 81) (.cst v)).put (some 82) (.d .bool b)
theorem ZQK (v:Value):norm dProg labD14 (st13 p l out t m ss k s fr ls j r v b)=stD14 p l out t m ss k s fr ls j r:=by kernel_rfl
theorem w_13 (hr:RelH 103 Mod F0 w0 h (stD14 p l out t h.m ss k s fr ls j r) a w) (hQ:∀a' w',RelH 103 Mod F0 w0 h (st13 p l out t h.m ss k s fr ls j r (ptrOf (h.at_ r)) (h.at_ r).isNone) a' w'→Q .normal a' w'):(Code.region (ridC dp13) (ropsC dp13) false).wp dProg Q a w:=by
 refine wp_region ?_
 rw[show List.range (ropsC dp13).size=[0,1,2,3] from by kernel_rfl]
 refine evOpH dcl.1 (o:=opC dp13 0) (st1:=(stD14 p l out t h.m ss k s fr ls j r).put (some 79) (.cst (.map (some h.m)))) (by kernel_rfl) (by kernel_rfl) (fun k=>by kernel_rfl) hr fun a w hr=>?_
 refine evOpH dcl.1 (o:=opC dp13 1) (st1:=((stD14 p l out t h.m ss k s fr ls j r).put (some 79) (.cst (.map (some h.m)))).put (some 80) (.d (.int .i64) r)) (by kernel_rfl) (by kernel_rfl) (fun k=>by kernel_rfl) hr fun a w hr=>?_
 refine handOp (o:=opC dp13 2) (by kernel_rfl) (by kernel_rfl) ?_
 refine lookupH (TM:=79) (K:=3) (V:=80) (x:=.tmp 79) (k:=.tmp 80) (key:=r) (by kernel_rfl) (by kernel_rfl) (by kernel_rfl) (by kernel_rfl) (by kernel_rfl) (by kernel_rfl) hr fun a w hr=>?_
 rw[show (opC dp13 2).dst=some 81 from by kernel_rfl] at hr
 refine handOp (o:=opC dp13 3) (by kernel_rfl) (by kernel_rfl) ?_
 refine eqNilH (TT:=80) (TT':=(match (opC dp13 3).op with |.binOp _ _ _ _ T=>T | _=>0)) (E:=(match dProg.underlying 80 with | some (.pointer E)=>E | _=>0)) (x:=.tmp 81) (y:=.const (.pointer none)) (s:=h.at_ r) (by kernel_rfl) (by kernel_rfl) (by kernel_rfl) (by kernel_rfl) hr fun a w hr=>?_
 rw[show (opC dp13 3).dst=some 82 from by kernel_rfl] at hr
 exact hQ a w hr
def st14 (p:El Zc) (l:List (El Zb)) (out:List (El Zd)) (t:Int) (m:Nat) (ss:List Int) (k s:Int) (fr:SetD) (ls:List Int) (j r:Int):St:=
 ((((stD14 p l out t m ss k s fr ls j r).put (some 83) (.cst (.map (some m)))).put (some 84) (.d (.int .i64) r)).put (some 85) (.d (.sl Zb) l)).put (some 86) (.d (.int .i64) (Int.ofNat (List.length l)))
def st14b (p:El Zc) (l:List (El Zb)) (out:List (El Zd)) (t:Int) (m:Nat) (ss:List Int) (k s:Int) (fr:SetD) (ls:List Int) (j r:Int) (d:SetD):St:=
 (((st14 p l out t m ss k s fr ls j r).setOb 90114 0 (.map (.int .i64) (.int .u64) d.2)).setOb 88 0 (.box 103 [.d (.int .i64) d.1,.mp 90114 0] none)).put (some 87) (.pt 88 0 0)
theorem ZQS (d:SetD) (o:Option Nat) (ho:o=none):norm dProg labD14 ((dropIds [88,90114] (st14b p l out t m ss k s fr ls j r d)).put o .top)=stD14 p l out t m ss k s fr ls j r:=by
 subst ho
 kernel_rfl
theorem w_14 (hn:h.at_ r=none) (hr:RelH 103 Mod F0 w0 h (stD14 p l out t h.m ss k s fr ls j r) a w)
  (hQ:∀e a' w',e.key=r→(e.n,e.l)=Zy (Int.ofNat (List.length l))→RelH 103 Mod F0 w0 ⟨h.m,h.es++[e]⟩ (stD14 p l out t h.m ss k s fr ls j r) a' w'→Q .normal a' w'):(Code.region (ridC dp14) (ropsC dp14) false).wp dProg Q a w:=by
 refine wp_region ?_
 rw[show List.range (ropsC dp14).size=[0,1,2,3,4,5] from by kernel_rfl]
 refine evOpH dcl.1 (o:=opC dp14 0) (st1:=(stD14 p l out t h.m ss k s fr ls j r).put (some 83) (.cst (.map (some h.m)))) (by kernel_rfl) (by kernel_rfl) (fun k=>by kernel_rfl) hr fun a w hr=>?_
 refine evOpH dcl.1 (o:=opC dp14 1) (st1:=((stD14 p l out t h.m ss k s fr ls j r).put (some 83) (.cst (.map (some h.m)))).put (some 84) (.d (.int .i64) r)) (by kernel_rfl) (by kernel_rfl) (fun k=>by kernel_rfl) hr fun a w hr=>?_
 refine evOpH dcl.1 (o:=opC dp14 2) (st1:=(((stD14 p l out t h.m ss k s fr ls j r).put (some 83) (.cst (.map (some h.m)))).put (some 84) (.d (.int .i64) r)).put (some 85) (.d (.sl Zb) l)) (by kernel_rfl) (by kernel_rfl) (fun k=>by kernel_rfl) hr fun a w hr=>?_
 refine evOpH dcl.1 (o:=opC dp14 3) (st1:=st14 p l out t h.m ss k s fr ls j r) (by kernel_rfl) (by kernel_rfl) (fun k=>by kernel_rfl) hr fun a w hr=>?_
 refine evOpH dcl.1 (o:=opC dp14 4) (st1:=st14b p l out t h.m ss k s fr ls j r (Zy (Int.ofNat (List.length l)))) (by kernel_rfl) (by kernel_rfl) (fun k=>by kernel_rfl) hr fun a w hr=>?_
 refine handOp (o:=opC dp14 5) (by kernel_rfl) (by kernel_rfl) ?_
 refine putH (TM:=79) (K:=3) (V:=80) (x:=.tmp 83) (k:=.tmp 84) (v:=.tmp 87) (key:=r) (id:=88) (ver:=0) (id2:=90114) (ver2:=0) (tg:=none) (n:=(Zy (Int.ofNat (List.length l))).1) (l:=(Zy (Int.ofNat (List.length l))).2)
  (by kernel_rfl) (by kernel_rfl) (by kernel_rfl) (by kernel_rfl) (by kernel_rfl) (by kernel_rfl) (by kernel_rfl) (by kernel_rfl) (by decide) hn hr fun b mb a w hr=>?_
 exact hQ _ a w rfl rfl (RelH.norm (ZQS _ _ (by kernel_rfl)) hr)
def st19 (p:El Zc) (l:List (El Zb)) (out:List (El Zd)) (t:Int) (m:Nat) (ss:List Int) (k s:Int) (fr:SetD) (ls:List Int) (j r:Int) (bs:List Int) (i x:Int) (v:Value):St:=
 (((((stE p l out t m ss k s fr ls j r bs i).put (some 16) (.d (.int .i64) x)).put (some 96) (.cst (.map (some m)))).put (some 97) (.d (.int .i64) r)).put (some 98) (.cst v)).put (some 99) (.d (.int .i64) x)
theorem ZQJ (v:Value) (o:Option Nat) (ho:o=some 100):norm dProg labE ((st19 p l out t m ss k s fr ls j r bs i x v).put o (.d .bool b))=stE p l out t m ss k s fr ls j r bs i:=by
 subst ho
 kernel_rfl
theorem w_19 {e:SE} (he:h.at_ r=some e) (hr:RelH 103 Mod F0 w0 h ((stE p l out t h.m ss k s fr ls j r bs i).put (some 16) (.d (.int .i64) x)) a w)
  (hQ:∀h' a' w',h'.m=h.m→h'.cont=putC h.cont r (Zq (e.n,e.l) x).2→RelH 103 Mod F0 w0 h' (stE p l out t h'.m ss k s fr ls j r bs i) a' w'→Q .normal a' w'):(Code.region (ridC dp19) (ropsC dp19) false).wp dProg Q a w:=by
 refine wp_region ?_
 rw[show List.range (ropsC dp19).size=[0,1,2,3,4] from by kernel_rfl]
 refine evOpH dcl.1 (o:=opC dp19 0) (st1:=((stE p l out t h.m ss k s fr ls j r bs i).put (some 16) (.d (.int .i64) x)).put (some 96) (.cst (.map (some h.m)))) (by kernel_rfl) (by kernel_rfl) (fun k=>by kernel_rfl) hr fun a w hr=>?_
 refine evOpH dcl.1 (o:=opC dp19 1) (st1:=(((stE p l out t h.m ss k s fr ls j r bs i).put (some 16) (.d (.int .i64) x)).put (some 96) (.cst (.map (some h.m)))).put (some 97) (.d (.int .i64) r)) (by kernel_rfl) (by kernel_rfl) (fun k=>by kernel_rfl) hr fun a w hr=>?_
 refine handOp (o:=opC dp19 2) (by kernel_rfl) (by kernel_rfl) ?_
 refine lookupH (TM:=79) (K:=3) (V:=80) (x:=.tmp 96) (k:=.tmp 97) (key:=r) (by kernel_rfl) (by kernel_rfl) (by kernel_rfl) (by kernel_rfl) (by kernel_rfl) (by kernel_rfl) hr fun a w hr=>?_
 rw[show (opC dp19 2).dst=some 98 from by kernel_rfl] at hr
 refine evOpH dcl.1 (o:=opC dp19 3) (st1:=st19 p l out t h.m ss k s fr ls j r bs i x (ptrOf (h.at_ r))) (by kernel_rfl) (by kernel_rfl) (fun k=>by kernel_rfl) hr fun a w hr=>?_
 refine handOp (o:=opC dp19 4) (by kernel_rfl) (by kernel_rfl) ?_
 have hnd:(h.es.map SE.key).Nodup:=by obtain ⟨_,_,_,_,_,_,hH,_⟩:=hr;exact hH.2.1
 have hC:CallOK dProg 45 [.bx 103 [.d (.int .i64) e.n,.mv (.int .i64) (.int .u64) e.l],.d (.int .i64) x] (Zgg (Zq (e.n,e.l) x)):=ZLp Zcc fun k=>by kernel_rfl
 refine callSetH (c:=cOf (opC dp19 4)) (f:=45) (fn:=Go.Proofs.Tryz.f45) (body:=Go.Proofs.Tryz.f45.body.getD .skip) (x:=.tmp 98) (y:=.tmp 99) (key:=r) (i:=x) (by kernel_rfl) (by kernel_rfl) (by kernel_rfl) (by kernel_rfl) (by kernel_rfl) (by kernel_rfl) (by kernel_rfl) he (by kernel_rfl) hC hr fun A B mb' a w hAB hr=>?_
 refine hQ ⟨h.m,A++⟨r,e.b,mb',(Zq (e.n,e.l) x).2.1,(Zq (e.n,e.l) x).2.2⟩ :: B⟩ a w rfl ?_ (RelH.norm (ZQJ _ _ (by kernel_rfl)) hr)
 have hk:=(ZNJ he).2
 have:=ZO8 (A:=A) (B:=B) (e:=e) (b:=e.b) (mb:=mb') (n:=0) (n':=(Zq (e.n,e.l) x).2.1) (l':=(Zq (e.n,e.l) x).2.2) hk (by rw[←hAB];exact hnd) h.m h.m
 rw[this]
 have:(⟨h.m,A++e :: B⟩:HS)=h:=by cases h;simp only[HS.mk.injEq,true_and];exact hAB.symm
 rw[this]
def st16 (p:El Zc) (l:List (El Zb)) (out:List (El Zd)) (t:Int) (m:Nat) (ss:List Int) (k s:Int) (fr:SetD) (ls:List Int) (j r:Int) (v:Value) (b:Bool):St:=
 (((((stD14 p l out t m ss k s fr ls j r).put (some 102) (.cst (.map (some m)))).put (some 103) (.d (.int .i64) r)).put (some 104) (.cst v)).put (some 105) (.d (.int .i64) s)).put (some 106) (.d .bool b)
theorem ZQM (v:Value):norm dProg labD (st16 p l out t m ss k s fr ls j r v b)=stD p l out t m ss k s fr ls j:=by kernel_rfl
theorem w_16 {e:SE} (he:h.at_ r=some e) (hr:RelH 103 Mod F0 w0 h (stD14 p l out t h.m ss k s fr ls j r) a w)
  (hQ:∀h' a' w',h'.m=h.m→h'.cont=h.cont→RelH 103 Mod F0 w0 h' (st16 p l out t h'.m ss k s fr ls j r (ptrOf (h.at_ r)) (Zp (e.n,e.l) s).1) a' w'→Q .normal a' w'):(Code.region (ridC dp16) (ropsC dp16) false).wp dProg Q a w:=by
 refine wp_region ?_
 rw[show List.range (ropsC dp16).size=[0,1,2,3,4] from by kernel_rfl]
 refine evOpH dcl.1 (o:=opC dp16 0) (st1:=(stD14 p l out t h.m ss k s fr ls j r).put (some 102) (.cst (.map (some h.m)))) (by kernel_rfl) (by kernel_rfl) (fun k=>by kernel_rfl) hr fun a w hr=>?_
 refine evOpH dcl.1 (o:=opC dp16 1) (st1:=((stD14 p l out t h.m ss k s fr ls j r).put (some 102) (.cst (.map (some h.m)))).put (some 103) (.d (.int .i64) r)) (by kernel_rfl) (by kernel_rfl) (fun k=>by kernel_rfl) hr fun a w hr=>?_
 refine handOp (o:=opC dp16 2) (by kernel_rfl) (by kernel_rfl) ?_
 refine lookupH (TM:=79) (K:=3) (V:=80) (x:=.tmp 102) (k:=.tmp 103) (key:=r) (by kernel_rfl) (by kernel_rfl) (by kernel_rfl) (by kernel_rfl) (by kernel_rfl) (by kernel_rfl) hr fun a w hr=>?_
 rw[show (opC dp16 2).dst=some 104 from by kernel_rfl] at hr
 refine evOpH dcl.1 (o:=opC dp16 3) (st1:=((((stD14 p l out t h.m ss k s fr ls j r).put (some 102) (.cst (.map (some h.m)))).put (some 103) (.d (.int .i64) r)).put (some 104) (.cst (ptrOf (h.at_ r)))).put (some 105) (.d (.int .i64) s)) (by kernel_rfl) (by kernel_rfl) (fun k=>by kernel_rfl) hr fun a w hr=>?_
 refine handOp (o:=opC dp16 4) (by kernel_rfl) (by kernel_rfl) ?_
 have hnd:(h.es.map SE.key).Nodup:=by obtain ⟨_,_,_,_,_,_,hH,_⟩:=hr;exact hH.2.1
 have hC:CallOK dProg 46 [.bx 103 [.d (.int .i64) e.n,.mv (.int .i64) (.int .u64) e.l],.d (.int .i64) s] (Zga (Zp (e.n,e.l) s)):=ZLp ZeN fun k=>by kernel_rfl
 refine callSetH (c:=cOf (opC dp16 4)) (f:=46) (fn:=Go.Proofs.Tryz.f46) (body:=Go.Proofs.Tryz.f46.body.getD .skip) (x:=.tmp 104) (y:=.tmp 105) (key:=r) (i:=s) (by kernel_rfl) (by kernel_rfl) (by kernel_rfl) (by kernel_rfl) (by kernel_rfl) (by kernel_rfl) (by kernel_rfl) he (by kernel_rfl) hC hr fun A B mb' a w hAB hr=>?_
 rw[show (opC dp16 4).dst=some 106 from by kernel_rfl] at hr
 refine hQ ⟨h.m,A++⟨r,e.b,mb',(Zp (e.n,e.l) s).2.1,(Zp (e.n,e.l) s).2.2⟩ :: B⟩ a w rfl ?_ hr
 have hk:=(ZNJ he).2
 unfold HS.cont
 rw[hAB]
 simp only[List.map_append,List.map_cons,hk]
 rfl
theorem ZQT (v:Value):dEvG dp17 labD (st16 p l out t m ss k s fr ls j r v b) (stD p l (out++[(t,((List.getD l (Int.toNat s) (dflt Zb)).2.1,(List.getD l (Int.toNat r) (dflt Zb)).2.1))]) t m ss k s fr ls j)
  (bif inB s (List.length l) then (bif inB r (List.length l) then Nat.ble ((List.length out+1)*24) limit else false) else false):=fun L k x r=>by
 rw[show ∀(a b c:Bool) (u:Option Ans),(bif (bif a then (bif b then c else false) else false) then u else none)=(bif a then (bif b then (bif c then u else none) else none) else none) from fun a b c u=>by cases a <;> cases b <;> rfl]
 kernel_rfl
end
end
end Go.Ev
end

section
open Go Go.Ev
namespace Go.Ev
noncomputable section
def putAll (d:SetD) (xs:List Int):SetD:=xs.foldl (fun d x=>(Zq d x).2) d
def dBack (p:El Zc) (l:List (El Zb)) (r:Int):SetD:=putAll (Zy (Int.ofNat (List.length l))) (ZbP p r)
abbrev OkS (p:El Zc) (l:List (El Zb)) (ms:SetsD):Prop:=∀r d,getC ms r=some d→d=dBack p l r
abbrev OkBut (p:El Zc) (l:List (El Zb)) (ms:SetsD) (r:Int):Prop:=∀r',r'≠r→∀d,getC ms r'=some d→d=dBack p l r'
theorem ZPg {ms:SetsD} {r:Int} {d d':SetD} (h:getC ms r=some d):getC (putC ms r d') r=some d':=by
 induction ms with
 | nil=>cases h
 | cons x ms ih=>
  unfold getC putC at*
  by_cases hx:x.1=r
  ·simp[hx]
  ·simp only[List.map_cons,hx,if_false]
   rw[List.find?_cons_of_neg (by simpa using hx)]
   rw[List.find?_cons_of_neg (by simpa using hx)] at h
   exact ih h
theorem ZKc {ms:SetsD} {r r':Int} {d':SetD} (hne:r'≠r):getC (putC ms r d') r'=getC ms r':=by
 induction ms with
 | nil=>rfl
 | cons x ms ih=>
  unfold getC putC at*
  by_cases hx:x.1=r
  ·have h1:¬r=r':=fun e=>hne e.symm
   have h2:¬x.1=r':=by rw[hx];exact h1
   simp only[List.map_cons,hx,if_true]
   rw[List.find?_cons_of_neg (by simpa using h1),List.find?_cons_of_neg (by simpa using h2)]
   exact ih
  ·simp only[List.map_cons,hx,if_false]
   by_cases hx':x.1=r'
   ·rw[List.find?_cons_of_pos (by simpa using hx'),List.find?_cons_of_pos (by simpa using hx')]
   ·rw[List.find?_cons_of_neg (by simpa using hx'),List.find?_cons_of_neg (by simpa using hx')]
    exact ih
theorem ZOU {ms:SetsD} {r:Int} {d:SetD} (h:getC ms r=none):getC (ms++[(r,d)]) r=some d:=by
 unfold getC at*
 rw[List.find?_append]
 rw[Option.map_eq_none_iff] at h
 rw[h]
 simp
theorem ZKT {ms:SetsD} {r r':Int} {d:SetD} (h:r'≠r):getC (ms++[(r,d)]) r'=getC ms r':=by
 unfold getC
 rw[List.find?_append]
 have:¬r=r':=fun e=>h e.symm
 simp[this]
theorem ZDw {i n:Nat} (h:i < n):inB (i:Int) n=true:=by
 unfold inB
 rw[decide_eq_true (Int.natCast_nonneg i),decide_eq_true (show (i:Int) < Int.ofNat n from Int.ofNat_lt.2 h)]
 rfl
theorem ZHj (i n:Nat):decide ((i:Int) < Int.ofNat n)=decide (i < n):=decide_eq_decide.2 Int.ofNat_lt
section
variable [Orgs] {Mod F0:Nat→Prop} {w0:World} {h:HS} {a:Act} {w:World} {Q:Exit→Act→World→Prop}
variable {p:El Zc} {l:List (El Zb)} {out:List (El Zd)} {t:Int} {m:Nat} {ss:List Int} {k s:Int} {fr:SetD} {fs:List Int} {j:Int} {ls:List Int} {r:Int} {bs:List Int} {i x:Int} {b:Bool}
theorem w_K8 {d0:SetD} (hb:bs.length < 1000000000000) (ho:OkBut p l h.cont r) (hg:getC h.cont r=some d0) (hr:RelH 103 Mod F0 w0 h (stE p l out t h.m ss k s fr ls j r bs 0) a w)
  (hQ:∀h' a' w',OkBut p l h'.cont r→getC h'.cont r=some (putAll d0 bs)→RelH 103 Mod F0 w0 h' (stD14 p l out t h'.m ss k s fr ls j r) a' w'→Q .normal a' w'):dpK8.wp dProg Q a w:=by
 rw[ZQb]
 refine forLoop (fun i a w=>∃h:HS,OkBut p l h.cont r∧getC h.cont r=some (putAll d0 (bs.take i))∧RelH 103 Mod F0 w0 h (stE p l out t h.m ss k s fr ls j r bs (i:Int)) a w)
  (fun i a w=>∃h:HS,OkBut p l h.cont r∧getC h.cont r=some (putAll d0 (bs.take i))∧RelH 103 Mod F0 w0 h ((stE p l out t h.m ss k s fr ls j r bs (i:Int)).put (some 93) (.d .bool (decide ((i:Int) < Int.ofNat (List.length bs))))) a w)
  (fun i a w=>∃h:HS,OkBut p l h.cont r∧getC h.cont r=some (putAll d0 (bs.take (i+1)))∧RelH 103 Mod F0 w0 h (stE p l out t h.m ss k s fr ls j r bs (i:Int)) a w)
  bs.length (toGo 92 bs.length) ?_ ?_ ?_ ?_ ?_ ⟨h,ho,hg,hr⟩ ?_
 ·intro i a w hi ⟨h,ho,hg,hr⟩
  exact pieceH dcl.1 dcl.2 (fun s=>s) (fun h=>h) (ZQ1 _ _ _ _ _ _ _ _ _ _ _ _ _ _) hr fun a' w' hr'=>⟨rfl,h,ho,hg,hr'⟩
 ·intro i a w hi ⟨h,ho,hg,hr⟩
  rw[hr.evb (x:=.tmp 93) (b:=decide ((i:Int) < Int.ofNat (List.length bs))) (by kernel_rfl),ZHj]
 ·intro i a w hi ⟨h,ho,hg,hr⟩
  rw[ZPN]
  refine wp_seq (pieceH dcl.1 dcl.2 (norm dProg labE16) (fun h=>Z1 h) ((ZQZ p l out t h.m ss k s fr j ls r bs (i:Int) _).ok (ZDw hi)) hr fun a w hr=>?_)
  have hat:=ZKy h r
  rw[hg] at hat
  obtain ⟨e,he,hed⟩:=Option.map_eq_some_iff.1 hat
  refine w_19 he hr fun h' a' w' hm hc hr'=>⟨.inl rfl,h',fun r' hr1 d hd=>?_,?_,hr'⟩
  ·rw[hc,ZKc hr1] at hd
   exact ho r' hr1 d hd
  ·rw[hc,ZPg hg,hed,List.take_succ_eq_append_getElem hi]
   unfold putAll
   rw[List.foldl_append]
   simp only[List.foldl_cons,List.foldl_nil]
   rw[Int.toNat_natCast,List.getD_eq_getElem?_getD,List.getElem?_eq_getElem hi]
   rfl
 ·intro i a w hi ⟨h,ho,hg,hr⟩
  have e:=ZQR p l out t h.m ss k s fr j ls r bs (i:Int)
  rw[Zs (by omega)] at e
  exact pieceH dcl.1 dcl.2 (norm dProg labE) (fun h=>Z1 h) e hr fun a' w' hr'=>⟨rfl,h,ho,hg,hr'⟩
 ·intro i a w hi ⟨h,ho,hg,hr⟩
  unfold toGo
  rw[hr.ev (x:=.tmp 92) (k:=.i64) (n:=(i:Int)) (by kernel_rfl)]
  rfl
 ·intro a w ⟨h,ho,hg,hr⟩
  rw[List.take_length] at hg
  exact hQ h a w ho hg (hr.norm (ZQA _ _ _ _ _ _ _ _ _ _ _ _ _ _ _))
end
end
end Go.Ev
end

section
open Go Go.Ev
namespace Go.Ev
noncomputable section
def hitP (p:El Zc) (l:List (El Zb)) (s:Int) (fr:SetD) (r:Int):Bool:=(Zp fr (List.getD l (Int.toNat r) (dflt Zb)).2.1).1&&(Zp (dBack p l r) s).1
def oneP (p:El Zc) (l:List (El Zb)) (t s:Int) (fr:SetD) (r:Int):List (El Zd):=
 if hitP p l s fr r=true then [(t,((List.getD l (Int.toNat s) (dflt Zb)).2.1,(List.getD l (Int.toNat r) (dflt Zb)).2.1))] else []
section
variable [Orgs] {Mod F0:Nat→Prop} {w0:World} {h:HS} {a:Act} {w:World} {Q:Exit→Act→World→Prop}
variable {p:El Zc} {l:List (El Zb)} {out:List (El Zd)} {t:Int} {m:Nat} {ss:List Int} {k s:Int} {fr:SetD} {fs:List Int} {j:Int} {ls:List Int} {r:Int} {bs:List Int} {i x:Int} {b:Bool}
theorem ZE7 {r:Int} {n:Nat} (h0:0≤r) (h1:r < (n:Int)):inB r n=true:=by
 unfold inB
 rw[decide_eq_true h0,decide_eq_true (show r < Int.ofNat n from h1)]
 rfl
theorem ZQU (hs:0≤s∧s < (l.length:Int)) (hrr:0≤r∧r < (l.length:Int)) (hlim:(out.length+1)*24≤limit) (hhas:(Zp fr (List.getD l (Int.toNat r) (dflt Zb)).2.1).1=true) (ho:OkS p l h.cont) (hg:getC h.cont r=some (dBack p l r))
  (hr:RelH 103 Mod F0 w0 h (stD14 p l out t h.m ss k s fr ls j r) a w) (hQ:∀h' a' w',OkS p l h'.cont→RelH 103 Mod F0 w0 h' (stD p l (out++oneP p l t s fr r) t h'.m ss k s fr ls j) a' w'→Q .normal a' w'):
  (Code.seq (.region (ridC dp16) (ropsC dp16) false) (.cond (.tmp 106) dp17 .skip)).wp dProg Q a w:=by
 have hat:=ZKy h r
 rw[hg] at hat
 obtain ⟨e,he,hed⟩:=Option.map_eq_some_iff.1 hat
 refine wp_seq (w_16 he hr fun h' a w hm hc hr=>?_)
 have ho':OkS p l h'.cont:=by rw[hc];exact ho
 have hone:hitP p l s fr r=(Zp (e.n,e.l) s).1:=by unfold hitP;rw[hhas,hed];rfl
 refine wp_cond_split (t:=(Zp (e.n,e.l) s).1) (hr.evb (x:=.tmp 106) (by kernel_rfl)) (fun ht=>?_) (fun hf=>?_)
 ·refine pieceH dcl.1 dcl.2 (norm dProg labD) (fun h=>Z1 h) ((ZQT _).ok ?_) hr fun a w hr=>hQ h' a w ho' ?_
  ·rw[ZE7 hs.1 hs.2,ZE7 hrr.1 hrr.2]
   exact Nat.ble_eq_true_of_le hlim
  ·unfold oneP
   rw[if_pos (hone.trans ht)]
   exact hr
 ·refine wp_skip (hQ h' a w ho' ?_)
  unfold oneP
  rw[if_neg (by rw[hone,hf];decide),List.append_nil]
  exact hr.norm (ZQM _)
theorem w_B7 {j:Nat} (hj:j < ls.length) (hrd:List.getD ls j (dflt (.int .i64))=r) (hs:0≤s∧s < (l.length:Int)) (hrr:0≤r∧r < (l.length:Int)) (hlim:(out.length+1)*24≤limit) (hkb:Zhy p r=true) (hbl:(ZbP p r).length < 1000000000000) (ho:OkS p l h.cont)
  (hr:RelH 103 Mod F0 w0 h ((stD p l out t h.m ss k s fr ls (j:Int)).put (some 68) (.d .bool b)) a w):
  (lpB dpK6).wp dProg (fun e a' w'=>(e=.normal∨e=.exit 7)∧∃h':HS,OkS p l h'.cont∧RelH 103 Mod F0 w0 h' (stD p l (out++oneP p l t s fr r) t h'.m ss k s fr ls (j:Int)) a' w') a w:=by
 rw[ZP2]
 refine wp_seq (pieceH dcl.1 dcl.2 (norm dProg labD14) (fun h=>Z1 h) ((ZQH p l out t h.m ss k s fr (j:Int) ls b).ok (ZDw hj)) hr fun a w hr=>?_)
 rw[Int.toNat_natCast,hrd] at hr
 refine wp_seq (wp_seq (pieceH dcl.1 dcl.2 (norm dProg labD78) (fun h=>Z1 h) ((ZQ3 p l out t h.m ss k s fr (j:Int) ls r).ok (ZE7 hrr.1 hrr.2)) hr fun a w hr=>?_))
 refine wp_cond_split (t:=! (Zp fr (List.getD l (Int.toNat r) (dflt Zb)).2.1).1) (hr.evb (x:=.tmp 78) (by kernel_rfl)) (fun ht=>?_) (fun hf=>?_)
 ·-- not behind it
  refine wp_exit ⟨.inr rfl,h,ho,?_⟩
  have:¬hitP p l s fr r=true:=by
   unfold hitP
   rw[Bool.not_eq_true'] at ht
   rw[ht,Bool.false_and];exact Bool.false_ne_true
  unfold oneP
  rw[if_neg this,List.append_nil]
  exact hr.norm (dn_D _ _ _ _ _ _ _ _ _ _ _ _ _)
 refine wp_skip ?_
 have hhas:(Zp fr (List.getD l (Int.toNat r) (dflt Zb)).2.1).1=true:=by simpa using hf
 have hr:=hr.norm (ZQf p l out t h.m ss k s fr (j:Int) ls r _)
 have fin:∀(h':HS) (a:Act) (w:World),OkS p l h'.cont→getC h'.cont r=some (dBack p l r)→RelH 103 Mod F0 w0 h' (stD14 p l out t h'.m ss k s fr ls (j:Int) r) a w→
   (Code.seq (.region (ridC dp16) (ropsC dp16) false) (.cond (.tmp 106) dp17 .skip)).wp dProg (fun e a' w'=>(e=.normal∨e=.exit 7)∧∃h':HS,OkS p l h'.cont∧RelH 103 Mod F0 w0 h' (stD p l (out++oneP p l t s fr r) t h'.m ss k s fr ls (j:Int)) a' w') a w:=fun h' a w ho hg hr=>
  ZQU hs hrr hlim hhas ho hg hr fun h'' a'' w'' ho'' hr''=>⟨.inl rfl,h'',ho'',hr''⟩
 refine wp_seq (wp_seq (w_13 hr fun a w hr=>?_))
 have hev:=hr.evb (x:=.tmp 82) (b:=(h.at_ r).isNone) (by kernel_rfl)
 have hr:=hr.norm (ZQK _)
 have hat:=ZKy h r
 cases hc:h.at_ r with
 | none=>
  rw[hc] at hev hat
  refine wp_cond_true hev (wp_seq (w_14 hc hr fun e a w hek hed hr=>?_))
  refine wp_seq (pieceH dcl.1 dcl.2 (norm dProg labE) (fun h=>Z1 h) ((ZQG p l out t h.m ss k s fr (j:Int) ls r).ok hkb) hr fun a w hr=>?_)
  have hnone:getC h.cont r=none:=hat.symm
  have hcont:(⟨h.m,h.es++[e]⟩:HS).cont=h.cont++[(r,Zy (Int.ofNat (List.length l)))]:=by
   unfold HS.cont
   rw[List.map_append]
   simp only[List.map_cons,List.map_nil,hek]
   rw[show (e.n,e.l)=Zy (Int.ofNat (List.length l)) from hed]
  refine w_K8 (h:=⟨h.m,h.es++[e]⟩) (d0:=Zy (Int.ofNat (List.length l))) hbl ?_ ?_ hr fun h' a w ho' hg' hr'=>?_
  ·intro r' hne d hd
   rw[hcont,ZKT hne] at hd
   exact ho r' d hd
  ·rw[hcont];exact ZOU hnone
  ·refine fin h' a w (fun r' d hd=>?_) hg' hr'
   by_cases e:r'=r
   ·subst e
    rw[hg'] at hd
    exact (Option.some.inj hd).symm
   ·exact ho' r' e d hd
 | some e=>
  rw[hc] at hev hat
  have hg:getC h.cont r=some (e.n,e.l):=hat.symm
  have:=ho r _ hg
  exact wp_cond_false hev (wp_skip (fin h a w ho (by rw[hg,this]) hr))
end
end
end Go.Ev
end

section
open Go Go.Ev
namespace Go.Ev
noncomputable section
def insP (p:El Zc) (t:Int):List (El Za):=List.getD p.2 (Int.toNat t) (dflt (.sl Za))
def insL (l:List (El Zb)) (s:Int):Int:=(List.getD l (Int.toNat s) (dflt Zb)).2.1
def frS (p:El Zc) (l:List (El Zb)) (t s:Int):SetD:=putAll (Zy (Int.ofNat (List.length (insP p t)))) (Zby (insP p t) (insL l s))
def outS (p:El Zc) (l:List (El Zb)) (t s:Int):List (El Zd):=(ZR l t false).flatMap (oneP p l t s (frS p l t s))
def outT (p:El Zc) (l:List (El Zb)) (t:Int):List (El Zd):=(ZR l t true).flatMap (outS p l t)
theorem ZkM {n:Nat} {M:Nat→Bool} :(listOf n M).length≤n:=by rw[Zh2];exact Ze1
theorem ZLx (p:El Zc) (l:List (El Zb)) (t s:Int) (fr:SetD) (r:Int):(oneP p l t s fr r).length≤1:=by
 unfold oneP
 split <;> simp
theorem Zpb {α β:Type} {f:α→List β} {n:Nat} (h:∀x,(f x).length≤n):∀l:List α,(l.flatMap f).length≤l.length*n
 | []=>by simp
 | x :: l=>by
  have:=Zpb h l
  have:=h x
  rw[List.flatMap_cons,List.length_append,List.length_cons,Nat.add_mul]
  omega
theorem ZLn (p:El Zc) (l:List (El Zb)) (t s:Int):(outS p l t s).length≤l.length:=by
 have h1:=Zpb (ZLx p l t s (frS p l t s)) (ZR l t false)
 have h2:(ZR l t false).length≤l.length:=ZkM
 unfold outS
 omega
theorem ZO7 (p:El Zc) (l:List (El Zb)) (t:Int):(outT p l t).length≤l.length*l.length:=by
 have h1:=Zpb (ZLn p l t) (ZR l t true)
 have h2:(ZR l t true).length≤l.length:=ZkM
 have h3:=Nat.mul_le_mul_right l.length h2
 unfold outT
 omega
theorem ZHo {α β:Type} {f:α→List β} {l:List α} {k:Nat} (hk:k < l.length) {x:α} (hx:l[k]? =some x):(l.take (k+1)).flatMap f=(l.take k).flatMap f++f x:=by
 rw[List.take_add_one,hx]
 simp
section
variable [Orgs] {Mod F0:Nat→Prop} {w0:World} {h:HS} {a:Act} {w:World} {Q:Exit→Act→World→Prop}
variable {p:El Zc} {l:List (El Zb)} {out:List (El Zd)} {t:Int} {m:Nat} {ss:List Int} {k s:Int} {fr:SetD} {fs:List Int} {j:Int} {ls:List Int} {r:Int} {bs:List Int} {i x:Int} {b:Bool}
theorem ZED {ls:List Int} {j:Nat} (hj:j < ls.length):ls[j]? =some (List.getD ls j (dflt (.int .i64)))∧List.getD ls j (dflt (.int .i64))∈ls:=by
 have h:ls[j]? =some (List.getD ls j (dflt (.int .i64))):=by rw[List.getD_eq_getElem?_getD,List.getElem?_eq_getElem hj];rfl
 exact ⟨h,List.mem_of_getElem? h⟩
theorem lim1 {o f j n L:Nat} (h:(o+n+1)*24≤L) (h1:f≤min j n*1):(o+f+1)*24≤L:=Nat.le_trans (Nat.mul_le_mul_right _ (Nat.add_le_add_right (Nat.add_le_add_left (Nat.le_trans h1 (by rw[Nat.mul_one];exact Nat.min_le_right _ _)) _) _)) h
theorem lim2 {a b:Nat} (h:a≤b) (h1:b < 1000000000):a < 1000000000000:=Nat.lt_of_le_of_lt h (Nat.lt_trans h1 (by decide))
theorem lim3 {o a b L:Nat} (h:a≤b) (h1:(o+b+1)*24≤L):(o+a+1)*24≤L:=Nat.le_trans (Nat.mul_le_mul_right _ (Nat.add_le_add_right (Nat.add_le_add_left h _) _)) h1
attribute [local irreducible] stA stA5 stB stB9 stB10 stC stD stD14 stE St.put
theorem w_K6 (hs:0≤s∧s < (l.length:Int)) (hls:∀r∈ls,(0≤r∧r < (l.length:Int))∧Zhy p r=true∧(ZbP p r).length < 1000000000000) (hlen:ls.length < 1000000000000) (hlim:(out.length+ls.length+1)*24≤limit) (ho:OkS p l h.cont)
  (hr:RelH 103 Mod F0 w0 h (stD p l out t h.m ss k s fr ls 0) a w)
  (hQ:∀h' j b a' w',OkS p l h'.cont→RelH 103 Mod F0 w0 h' ((stD p l (out++ls.flatMap (oneP p l t s fr)) t h'.m ss k s fr ls j).put (some 68) (.d .bool b)) a' w'→Q .normal a' w'):dpK6.wp dProg Q a w:=by
 rw[ZP6]
 refine forLoop (fun j a w=>∃h:HS,OkS p l h.cont∧RelH 103 Mod F0 w0 h (stD p l (out++(ls.take j).flatMap (oneP p l t s fr)) t h.m ss k s fr ls (j:Int)) a w)
  (fun j a w=>∃h:HS,OkS p l h.cont∧RelH 103 Mod F0 w0 h ((stD p l (out++(ls.take j).flatMap (oneP p l t s fr)) t h.m ss k s fr ls (j:Int)).put (some 68) (.d .bool (decide ((j:Int) < Int.ofNat (List.length ls))))) a w)
  (fun j a w=>∃h:HS,OkS p l h.cont∧RelH 103 Mod F0 w0 h (stD p l (out++(ls.take (j+1)).flatMap (oneP p l t s fr)) t h.m ss k s fr ls (j:Int)) a w)
  ls.length (toGo 67 ls.length) ?_ ?_ ?_ ?_ ?_ ⟨h,ho,by simpa using hr⟩ ?_
 ·intro j a w hj ⟨h,ho,hr⟩
  exact pieceH dcl.1 dcl.2 (fun s=>s) (fun h=>h) (ZQ4 _ _ _ _ _ _ _ _ _ _ _) hr fun a' w' hr'=>⟨rfl,h,ho,hr'⟩
 ·intro j a w hj ⟨h,ho,hr⟩
  rw[hr.evb (x:=.tmp 68) (b:=decide ((j:Int) < Int.ofNat (List.length ls))) (by kernel_rfl),ZHj]
 ·intro j a w hj ⟨h,ho,hr⟩
  obtain ⟨g1,g2⟩:=ZED hj
  obtain ⟨q1,q2,q3⟩:=hls _ g2
  rw[ZHo hj g1,←List.append_assoc]
  refine w_B7 hj rfl hs q1 ?_ q2 q3 ho hr
  have h1:=Zpb (ZLx p l t s fr) (ls.take j)
  rw[List.length_append]
  rw[List.length_take] at h1
  exact lim1 hlim h1
 ·intro j a w hj ⟨h,ho,hr⟩
  have e:=ZQX p l (out++(ls.take (j+1)).flatMap (oneP p l t s fr)) t h.m ss k s fr (j:Int) ls
  rw[Zs (by omega)] at e
  exact pieceH dcl.1 dcl.2 (norm dProg labD) (fun h=>Z1 h) e hr fun a' w' hr'=>⟨rfl,h,ho,hr'⟩
 ·intro j a w hj ⟨h,ho,hr⟩
  unfold toGo
  rw[hr.ev (x:=.tmp 67) (k:=.i64) (n:=(j:Int)) (by kernel_rfl)]
  rfl
 ·intro a w ⟨h,ho,hr⟩
  rw[List.take_length] at hr
  exact hQ h _ _ a w ho hr
theorem w_K4 (hlen:fs.length < 1000000000000) (hr:RelH 103 Mod F0 w0 h (stC p l out t h.m ss k s fr fs 0) a w)
  (hQ:∀j b a' w',RelH 103 Mod F0 w0 h ((stC p l out t h.m ss k s (putAll fr fs) fs j).put (some 56) (.d .bool b)) a' w'→Q .normal a' w'):dpK4.wp dProg Q a w:=by
 rw[ZP4]
 refine forLoop (fun j a w=>RelH 103 Mod F0 w0 h (stC p l out t h.m ss k s (putAll fr (fs.take j)) fs (j:Int)) a w)
  (fun j a w=>RelH 103 Mod F0 w0 h ((stC p l out t h.m ss k s (putAll fr (fs.take j)) fs (j:Int)).put (some 56) (.d .bool (decide ((j:Int) < Int.ofNat (List.length fs))))) a w)
  (fun j a w=>RelH 103 Mod F0 w0 h (stC p l out t h.m ss k s (putAll fr (fs.take (j+1))) fs (j:Int)) a w)
  fs.length (toGo 55 fs.length) ?_ ?_ ?_ ?_ ?_ hr ?_
 ·intro j a w hj hr
  exact pieceH dcl.1 dcl.2 (fun s=>s) (fun h=>h) (ZQI _ _ _ _ _ _ _ _ _ _ _) hr fun a' w' hr'=>⟨rfl,hr'⟩
 ·intro j a w hj hr
  rw[hr.evb (x:=.tmp 56) (b:=decide ((j:Int) < Int.ofNat (List.length fs))) (by kernel_rfl),ZHj]
 ·intro j a w hj hr
  refine pieceH dcl.1 dcl.2 (norm dProg labC) (fun h=>Z1 h) ((ZQW p l out t h.m ss k s (putAll fr (fs.take j)) fs (j:Int) _).ok (ZDw hj)) hr fun a' w' hr'=>⟨.inl rfl,?_⟩
  have:putAll fr (fs.take (j+1))=(Zq (putAll fr (fs.take j)) (List.getD fs (Int.toNat (j:Int)) (dflt (.int .i64)))).2:=by
   rw[List.take_succ_eq_append_getElem hj]
   unfold putAll
   rw[List.foldl_append]
   simp only[List.foldl_cons,List.foldl_nil]
   rw[Int.toNat_natCast,List.getD_eq_getElem?_getD,List.getElem?_eq_getElem hj]
   rfl
  rw[this]
  exact hr'
 ·intro j a w hj hr
  have e:=ZQV p l out t h.m ss k s (putAll fr (fs.take (j+1))) fs (j:Int)
  rw[Zs (by omega)] at e
  exact pieceH dcl.1 dcl.2 (norm dProg labC) (fun h=>Z1 h) e hr fun a' w' hr'=>⟨rfl,hr'⟩
 ·intro j a w hj hr
  unfold toGo
  rw[hr.ev (x:=.tmp 55) (k:=.i64) (n:=(j:Int)) (by kernel_rfl)]
  rfl
 ·intro a w hr
  rw[List.take_length] at hr
  exact hQ _ _ a w hr
structure DelayOK (p:El Zc) (l:List (El Zb)):Prop where
 len:l.length < 1000000000
 thr:p.2.length < 1000000000
 all:(p.2.length*(l.length*l.length)+1)*24≤limit
 back:∀r:Int,Zhy p r=true∧(ZbP p r).length < 1000000000000
 flow:∀(t:Nat) (i:Int),t < p.2.length→Zim (insP p (t:Int)) i=true∧(Zby (insP p (t:Int)) i).length < 1000000000000
theorem ZLQ {l:List (El Zb)} {t:Int} {b:Bool} {r:Int} (h:r∈ZR l t b):0≤r∧r < (l.length:Int):=by
 obtain ⟨i,hi,_,rfl⟩:=Zcv.1 h
 omega
theorem w_B3 (hd:DelayOK p l) {t:Nat} (ht:t < p.2.length) {k:Nat} (hk:k < ss.length) (hss:∀s∈ss,0≤s∧s < (l.length:Int)) (hlim:(out.length+l.length+1)*24≤limit) (ho:OkS p l h.cont)
  (hr:RelH 103 Mod F0 w0 h ((stB p l out (t:Int) h.m ss (k:Int)).put (some 32) (.d .bool b)) a w):
  (lpB dpK2).wp dProg (fun e a' w'=>(e=.normal∨e=.exit 3)∧∃(h':HS) (s:Int) (fr:SetD) (ls:List Int) (j:Int) (b:Bool),OkS p l h'.cont∧RelH 103 Mod F0 w0 h' ((stD p l (out++outS p l (t:Int) (List.getD ss k (dflt (.int .i64)))) (t:Int) h'.m ss (k:Int) s fr ls j).put (some 68) (.d .bool b)) a' w') a w:=by
 obtain ⟨g1,g2⟩:=ZED hk
 have hs:=hss _ g2
 obtain ⟨f1,f2⟩:=hd.flow t (insL l (List.getD ss k (dflt (.int .i64)))) ht
 rw[ZPG]
 refine wp_seq (pieceH dcl.1 dcl.2 (norm dProg labB9) (fun h=>Z1 h) ((dp_7 p l out (t:Int) h.m ss (k:Int) b).ok (ZDw hk)) hr fun a w hr=>?_)
 rw[Int.toNat_natCast] at hr
 refine wp_seq (pieceH dcl.1 dcl.2 (norm dProg labB10) (fun h=>Z1 h) ((dp_8 p l out (t:Int) h.m ss (k:Int) _).ok (ZDw ht)) hr fun a w hr=>?_)
 refine wp_seq (wp_seq (pieceH dcl.1 dcl.2 (norm dProg labC) (fun h=>Z1 h) ((dp_9 p l out (t:Int) h.m ss (k:Int) _ _).ok (by rw[ZDw ht,ZE7 hs.1 hs.2];exact f1)) hr fun a w hr=>?_))
 refine w_K4 f2 hr fun j b a w hr=>?_
 have hkp:ZdO l (t:Int) false=true:=decide_eq_true hd.len
 refine wp_seq (pieceH dcl.1 dcl.2 (norm dProg labD) (fun h=>Z1 h) ((ZQ2 p l out (t:Int) h.m ss (k:Int) _ _ _ _ _).ok hkp) hr fun a w hr=>?_)
 have hl2:(ZR l (t:Int) false).length≤l.length:=ZkM
 refine w_K6 hs (fun r hrm=>⟨ZLQ hrm,hd.back r⟩) (lim2 hl2 hd.len) (lim3 hl2 hlim) ho hr fun h' j b a w ho hr=>⟨.inl rfl,h',_,_,_,j,b,ho,hr⟩
end
end
end Go.Ev
end

section
open Go Go.Ev
namespace Go.Ev
noncomputable section
theorem limA {o c n N L:Nat} (hc:c < n) (h:(o+n*N+1)*24≤L) {f:Nat} (hf:f≤min c n*N):(o+f+N+1)*24≤L:=by
 refine Nat.le_trans (Nat.mul_le_mul_right _ (Nat.add_le_add_right ?_ _)) h
 rw[Nat.add_assoc]
 refine Nat.add_le_add_left ?_ _
 have h1:(c+1)*N≤n*N:=Nat.mul_le_mul_right _ hc
 have h2:min c n*N≤c*N:=Nat.mul_le_mul_right _ (Nat.min_le_left _ _)
 rw[Nat.succ_mul] at h1
 exact Nat.le_trans (Nat.add_le_add_right (Nat.le_trans hf h2) _) h1
section
variable [Orgs] {Mod F0:Nat→Prop} {w0:World} {h:HS} {a:Act} {w:World} {Q:Exit→Act→World→Prop}
variable {p:El Zc} {l:List (El Zb)} {out:List (El Zd)} {m:Nat} {ss:List Int} {b:Bool}
attribute [local irreducible] stA stA5 stB stB9 stB10 stC stD stD14 stE St.put
theorem w_K2 (hd:DelayOK p l) {t:Nat} (ht:t < p.2.length) (hss:∀s∈ss,0≤s∧s < (l.length:Int)) (hlen:ss.length < 1000000000000) (hlim:(out.length+ss.length*l.length+1)*24≤limit) (ho:OkS p l h.cont)
  (hr:RelH 103 Mod F0 w0 h (stB p l out (t:Int) h.m ss 0) a w)
  (hQ:∀h' k b a' w',RelH 103 Mod F0 w0 h' ((stB p l (out++ss.flatMap (outS p l (t:Int))) (t:Int) h'.m ss k).put (some 32) (.d .bool b)) a' w'→Q .normal a' w'):dpK2.wp dProg Q a w:=by
 rw[ZPJ]
 refine forLoop (fun k a w=>∃h:HS,OkS p l h.cont∧RelH 103 Mod F0 w0 h (stB p l (out++(ss.take k).flatMap (outS p l (t:Int))) (t:Int) h.m ss (k:Int)) a w)
  (fun k a w=>∃h:HS,OkS p l h.cont∧RelH 103 Mod F0 w0 h ((stB p l (out++(ss.take k).flatMap (outS p l (t:Int))) (t:Int) h.m ss (k:Int)).put (some 32) (.d .bool (decide ((k:Int) < Int.ofNat (List.length ss))))) a w)
  (fun k a w=>∃(h:HS) (s:Int) (fr:SetD) (ls:List Int) (j:Int) (b:Bool),OkS p l h.cont∧RelH 103 Mod F0 w0 h ((stD p l (out++(ss.take (k+1)).flatMap (outS p l (t:Int))) (t:Int) h.m ss (k:Int) s fr ls j).put (some 68) (.d .bool b)) a w)
  ss.length (toGo 31 ss.length) ?_ ?_ ?_ ?_ ?_ ⟨h,ho,by simpa using hr⟩ ?_
 ·intro k a w hk ⟨h,ho,hr⟩
  exact pieceH dcl.1 dcl.2 (fun s=>s) (fun h=>h) (ZQF _ _ _ _ _ _ _) hr fun a' w' hr'=>⟨rfl,h,ho,hr'⟩
 ·intro k a w hk ⟨h,ho,hr⟩
  rw[hr.evb (x:=.tmp 32) (b:=decide ((k:Int) < Int.ofNat (List.length ss))) (by kernel_rfl),ZHj]
 ·intro k a w hk ⟨h,ho,hr⟩
  obtain ⟨g1,g2⟩:=ZED hk
  rw[ZHo hk g1,←List.append_assoc]
  refine w_B3 hd ht hk hss ?_ ho hr
  have h1:=Zpb (ZLn p l (t:Int)) (ss.take k)
  rw[List.length_append]
  rw[List.length_take] at h1
  exact limA hk hlim h1
 ·intro k a w hk ⟨h,s,fr,ls,j,b,ho,hr⟩
  have e:=ZQP p l (out++(ss.take (k+1)).flatMap (outS p l (t:Int))) (t:Int) h.m ss (k:Int) s fr j ls b
  rw[Zs (Nat.lt_trans (Nat.lt_trans hk hlen) (by decide))] at e
  exact pieceH dcl.1 dcl.2 (norm dProg labB) (fun h=>Z1 h) e hr fun a' w' hr'=>⟨rfl,h,ho,hr'⟩
 ·intro k a w hk ⟨h,ho,hr⟩
  unfold toGo
  rw[hr.ev (x:=.tmp 31) (k:=.i64) (n:=(k:Int)) (by kernel_rfl)]
  rfl
 ·intro a w ⟨h,ho,hr⟩
  rw[List.take_length] at hr
  exact hQ h _ _ a w hr
def outN (p:El Zc) (l:List (El Zb)) (n:Nat):List (El Zd):=(List.range n).flatMap fun t:Nat=>outT p l (t:Int)
theorem ZPe (p:El Zc) (l:List (El Zb)) (n:Nat):(outN p l n).length≤n*(l.length*l.length):=by
 have:=Zpb (fun t:Nat=>ZO7 p l (t:Int)) (List.range n)
 rw[List.length_range] at this
 unfold outN
 exact this
theorem ZMZ (p:El Zc) (l:List (El Zb)) (n:Nat):outN p l (n+1)=outN p l n++outT p l (n:Int):=by
 unfold outN
 rw[List.range_succ,List.flatMap_append]
 simp
theorem limC {c n N L:Nat} (hc:c < n) (h:(n*(N*N)+1)*24≤L) {o s:Nat} (ho:o≤c*(N*N)) (hs:s≤N):(o+s*N+1)*24≤L:=by
 refine Nat.le_trans (Nat.mul_le_mul_right _ (Nat.add_le_add_right ?_ _)) h
 have h1:(c+1)*(N*N)≤n*(N*N):=Nat.mul_le_mul_right _ hc
 rw[Nat.succ_mul] at h1
 exact Nat.le_trans (Nat.add_le_add ho (Nat.mul_le_mul_right _ hs)) h1
theorem ZP5 (p:El Zc) (l:List (El Zb)) (m:Nat):OkS p l (⟨m,[]⟩:HS).cont:=fun r d hrd=>by cases hrd
theorem w_B1 (hd:DelayOK p l) {t:Nat} (ht:t < p.2.length) (hr:Rel Mod F0 w0 ((stA p l (outN p l t) (t:Int)).put (some 23) (.d .bool b)) a w):
  (lpB dpK0).wp dProg (fun e a' w'=>(e=.normal∨e=.exit 1)∧∃(m:Nat) (ss:List Int) (k:Int) (b:Bool),Rel Mod F0 w0 ((stB p l (outN p l (t+1)) (t:Int) m ss k).put (some 32) (.d .bool b)) a' w') a w:=by
 rw[ZP1]
 refine wp_seq (piece dcl.1 dcl.2 (norm dProg labA5) (fun h=>Z1 h) (dp_4 p l (outN p l t) (t:Int) b) hr fun a w hr=>?_)
 have hkp:ZdO l (t:Int) true=true:=decide_eq_true hd.len
 refine wp_seq (w_5 hkp hr fun m a w hr=>?_)
 refine wp_seq (pieceH dcl.1 dcl.2 (norm dProg labB) (fun h=>Z1 h) dp_6 hr fun a w hr=>?_)
 have hl2:(ZR l (t:Int) true).length≤l.length:=ZkM
 refine w_K2 (h:=⟨m,[]⟩) hd ht (fun s hs=>ZLQ hs) (lim2 hl2 hd.len) (limC ht hd.all (ZPe p l t) hl2) (ZP5 p l m) hr fun h' k b a w hr=>⟨.inl rfl,h'.m,ZR l (t:Int) true,k,b,?_⟩
 rw[ZMZ]
 exact hr.out
theorem w_K0 (hd:DelayOK p l) (hr:Rel Mod F0 w0 (stA p l [] 0) a w)
  (hQ:∀t b a' w',Rel Mod F0 w0 ((stA p l (outN p l p.2.length) t).put (some 23) (.d .bool b)) a' w'→Q .normal a' w'):dpK0.wp dProg Q a w:=by
 rw[ZPK]
 refine forLoop (fun t a w=>Rel Mod F0 w0 (stA p l (outN p l t) (t:Int)) a w)
  (fun t a w=>Rel Mod F0 w0 ((stA p l (outN p l t) (t:Int)).put (some 23) (.d .bool (decide ((t:Int) < Int.ofNat (List.length p.2))))) a w)
  (fun t a w=>∃(m:Nat) (ss:List Int) (k:Int) (b:Bool),Rel Mod F0 w0 ((stB p l (outN p l (t+1)) (t:Int) m ss k).put (some 32) (.d .bool b)) a w)
  p.2.length (toGo 22 p.2.length) ?_ ?_ ?_ ?_ ?_ hr ?_
 ·intro t a w ht hr
  exact piece dcl.1 dcl.2 (fun s=>s) (fun h=>h) (ZQN _ _ _ _) hr fun a' w' hr'=>⟨rfl,hr'⟩
 ·intro t a w ht hr
  rw[hr.evb (x:=.tmp 23) (b:=decide ((t:Int) < Int.ofNat (List.length p.2))) (by kernel_rfl),ZHj]
 ·intro t a w ht hr
  exact w_B1 hd ht hr
 ·intro t a w ht ⟨m,ss,k,b,hr⟩
  have e:=ZQL p l (outN p l (t+1)) (t:Int) m ss k b
  rw[Zs (Nat.lt_trans (Nat.lt_trans ht hd.thr) (by decide))] at e
  exact piece dcl.1 dcl.2 (norm dProg labA) (fun h=>Z1 h) e hr fun a' w' hr'=>⟨rfl,hr'⟩
 ·intro t a w ht hr
  unfold toGo
  rw[hr.ev (x:=.tmp 22) (k:=.i64) (n:=(t:Int)) (by kernel_rfl)]
  rfl
 ·intro a w hr
  exact hQ _ _ a w hr
end
end
end Go.Ev
end

section
open Go Go.Ev
namespace Go.Ev
def Znx:Sig:=[(true,Zc)]
noncomputable def Zk (p:El Zc):List (El Zd):=outN p (ofC p) p.2.length
def ZS (p:El Zc):Bool:=smallAll p&&(decide ((ofC p).length < 1000000000)&&(decide (p.2.length < 1000000000)&&decide ((p.2.length*((ofC p).length*(ofC p).length)+1)*24≤limit)))
def Zvl:List (El Zd)→AV:=fun (r:List (El Zd))=>.rw 67 Zd r
theorem ZHs {x:List (El Za)} :∀ {l:List (List (El Za))},x∈l→x.length≤total l
 | y :: l,h=>by
  unfold total at*
  rw[List.map_cons,List.sum_cons]
  rcases List.mem_cons.1 h with rfl | h
  ·exact Nat.le_add_right _ _
  ·exact Nat.le_trans (by have:=ZHs h;unfold total at this;exact this) (Nat.le_add_left _ _)
theorem ZKp (p:El Zc) (a:Int):(ZbP p a).length≤(ofC p).length:=by
 unfold ZbP
 split
 ·exact ZkM
 ·exact Nat.zero_le _
theorem delayOK {p:El Zc} (hk:ZS p=true):smallAll p=true∧DelayOK p (ofC p):=by
 unfold ZS at hk
 simp only[Bool.and_eq_true] at hk
 obtain ⟨h1,h2,h3,h4⟩:=hk
 have h2:=of_decide_eq_true h2
 have hA:=smallA h1
 refine ⟨h1,h2,of_decide_eq_true h3,of_decide_eq_true h4,fun r=>⟨h1,Nat.lt_of_le_of_lt (ZKp p r) (Nat.lt_trans h2 (by decide))⟩,fun t i ht=>?_⟩
 have hm:insP p (t:Int)∈p.2:=by
  unfold insP
  rw[Int.toNat_natCast,List.getD_eq_getElem?_getD,List.getElem?_eq_getElem ht]
  exact List.getElem_mem ht
 have hf:=Zs4 (hA.thr _ hm)
 have h1:(Zby (insP p (t:Int)) i).length≤(insP p (t:Int)).length:=ZkM
 have h2:(insP p (t:Int)).length < 1073741824:=by
  exact Nat.lt_of_le_of_lt (ZHs hm) hA.tot
 exact ⟨hf,Nat.lt_of_le_of_lt h1 (Nat.lt_trans h2 (by decide))⟩
noncomputable section
theorem dp_E (p:El Zc) (l:List (El Zb)) (out:List (El Zd)) (t:Int) (b:Bool):dEvI dpE ((stA p l out t).put (some 23) (.d .bool b)) ((((stA p l out t).put (some 23) (.d .bool b)).put (some 125) (.own 5 0 none)).put (some 2) (.own 5 0 none)):=fun L k x r=>by kernel_rfl
theorem ZwN (p:El Zc) (hk:ZS p=true):CallOK dProg 25 (toForms Znx (p,())) (Zvl (Zk p),tps (toForms Znx (p,()))):=by
 obtain ⟨hs,hd⟩:=delayOK hk
 refine ZmF (tb:=[]) (fn:=Go.Proofs.Tryz.f25) (c:=dpB) (vs:=[.ag [.d (.sl Zx) p.1,.d (.sl (.sl Za)) p.2]]) (st:=⟨[],[]⟩) (by kernel_rfl) (by kernel_rfl) (by kernel_rfl) ?_
 intro _ Mod F0 w0 a w hr
 have hr:Rel Mod F0 w0 (dS0 p) a w:=hr
 rw[ZQu]
 refine wp_seq (piece dcl.1 dcl.2 (norm dProg ⟨[1],[]⟩) (fun h=>Z1 h) (dp_0 p) hr fun a w hr=>?_)
 refine wp_seq (piece dcl.1 dcl.2 (norm dProg ⟨[1,3],[]⟩) (fun h=>Z1 h) ((dp_1 p).ok hs) hr fun a w hr=>?_)
 refine wp_seq (piece dcl.1 dcl.2 (norm dProg ⟨[1,3,4],[(5,122)]⟩) (fun h=>Z1 h) (dp_2 p (ZA p)) hr fun a w hr=>?_)
 refine wp_seq (wp_seq (piece dcl.1 dcl.2 (norm dProg labA) (fun h=>Z1 h) (dp_3 p (ZA p)) hr fun a w hr=>?_))
 refine w_K0 (l:=ofC p) hd hr fun t b a w hr=>?_
 refine wp_seq (piece dcl.1 dcl.2 (fun s=>s) (fun h=>h) (dp_E p (ofC p) (outN p (ofC p) p.2.length) t b) hr fun a w hr=>?_)
 exact wp_ret ⟨.inr rfl,_,hr,by kernel_rfl⟩
noncomputable def Zfn:Run:=entG Znx Zvl (fun a=>ZS a.1) (fun a=>Zk a.1)
theorem Zgb:EntOK dProg 25 Zfn:=ZAy (ZiT (fn:=Go.Proofs.Tryz.f25) (c:=dpB) (by kernel_rfl) (by kernel_rfl) (by kernel_rfl)) fun a h=>ZwN a.1 h
end
end Go.Ev
end

section
open Go Go.Ev
namespace Go.Ev
noncomputable section
def Zg5:Sig:=[(true,Za)]
noncomputable def Zu1:Tbl:=[(89,ZgI),(60,ZsS)]
theorem ZJi:∀p∈Zu1,EntOK Go.Proofs.Tryz.prog p.1 p.2:=Zg Zhc (Zg ZvR (Zu))
noncomputable def Zqu:Code:=Go.Proofs.Tryz.f81.body.getD .skip
def Zro:Tb:=[]
def ZAL (i:El Za):Empty→JT Empty (Bool):=fun j=>nomatch j
def ZxD (i:El Za):JT Empty (Bool):=.br (ZU i) (.br ((Zz i)==(0:Int)) (.br (i.1==(12:Int)) (.leaf true) (.br (Zax i) (.leaf (Zam i)) (.no))) (.br (Zax i) (.leaf (Zam i)) (.no))) (.no)
def ZgP (i:El Za):Bool:=bif (ZU i) then bif ((Zz i)==(0:Int)) then bif (i.1==(12:Int)) then true else bif (Zax i) then (Zam i) else false else bif (Zax i) then (Zam i) else false else false
def Zew (i:El Za):Bool:=bif (ZU i) then bif ((Zz i)==(0:Int)) then bif (i.1==(12:Int)) then true else bif (Zax i) then true else false else bif (Zax i) then true else false else false
theorem ZJL (i:El Za) (hk:Zew i=true):Goes (ZAL i) (ZxD i) (ZgP i):=Goes.brk hk (fun hk=>Goes.brk hk (fun hk=>Goes.brk hk (fun hk=>Goes.leaf) (fun hk=>Goes.brk hk (fun hk=>Goes.leaf) (fun hk=>Goes.nok hk))) (fun hk=>Goes.brk hk (fun hk=>Goes.leaf) (fun hk=>Goes.nok hk))) (fun hk=>Goes.nok hk)
def ZoD:Bool→AV:=fun (r:Bool)=>.d .bool r
def ZgZ (i:El Za):Empty→Nat×St:=fun j=>nomatch j
theorem ZHL (i:El Za) (L:Lt):entryA Go.Proofs.Tryz.prog (clOf Zu1) Zro Go.Proofs.Tryz.f81 Zqu L (toForms Zg5 (i,()))=(ZxD i).run (fun v=>some (ZoD v,tps (toForms Zg5 (i,())))) fun j=>L (ZgZ i j).1 (ZgZ i j).2:=by kernel_rfl
theorem ZJj (i:El Za):∀(L:Lt) (j:Empty),procOf (procsF Go.Proofs.Tryz.prog (clOf Zu1) Zro Go.Proofs.Tryz.f81 Zqu (toForms Zg5 (i,()))) (ZgZ i j).1 L (ZgZ i j).2=(ZAL i j).run (fun v=>some (ZoD v,tps (toForms Zg5 (i,())))) fun j=>L (ZgZ i j).1 (ZgZ i j).2:=fun L j=>nomatch j
noncomputable def ZAx:Run:=entG Zg5 ZoD (fun a=>Zew a.1) (fun a=>ZgP a.1)
theorem ZIn:EntOK Go.Proofs.Tryz.prog 81 ZAx:=ZJ (tb:=Zro) (c:=Zqu) ZJi (by kernel_rfl) (by kernel_rfl) (by kernel_rfl) (fun a=>by kernel_rfl) fun ⟨i,_⟩ hk=>Zn (c:=Zqu) (K:=fun v=>(ZoD v,tps (toForms Zg5 (i,())))) (S:=ZgZ i) (by kernel_rfl) (ZHL i) (ZJj i) (ZJL i hk)
end
end Go.Ev
end

section
open Go Go.Ev
namespace Go.Ev
noncomputable section
def Zht:Sig:=[(true,(.sl Za)),(false,(.sl (.int .i64))),(false,(.int .i64))]
noncomputable def ZuP:Tbl:=[(43,ZkO),(45,ZcY),(63,ZuS),(46,Zf6),(81,ZAx),(64,ZhV)]
theorem ZJr:∀p∈ZuP,EntOK Go.Proofs.Tryz.prog p.1 p.2:=Zg ZlQ (Zg Zcc (Zg ZxF (Zg ZeN (Zg ZIn (Zg ZjN (Zu))))))
noncomputable def ZpD:Code:=Go.Proofs.Tryz.f56.body.getD .skip
def ZsC:Tb:=[(4,⟨[2,3,7,8,23,24,25],[]⟩),(11,⟨[3,7,8,11],[(1000000000000000000000000000000000000000000000000000000000012,1)]⟩),(17,⟨[3,7,8,11,51,52,53],[(1000000000000000000000000000000000000000000000000000000000012,1)]⟩)]
inductive Zlf where | l4 (h:Int) (closed:Int) (closed1:List (Int×Int)) | l11 (closed:Int) (closed1:List (Int×Int)) (len:Nat) (seen:Int) (open_:List Int) (seen1:List (Int×Int)) | l17 (closed:Int) (closed1:List (Int×Int)) (len:Nat) (h:Int) (seen:Int) (open_:List Int) (seen1:List (Int×Int)) (h1:Int) (h2:List Int)
def ZbZ (t:List (El Za)) (points:List Int) (s:Int):Zlf→JT Zlf (List Int) |.l4 h closed closed1=>.br (decide (h < (Int.ofNat (List.length points)))) (.br ((decide ((0:Int)≤h))&&(decide (h < (Int.ofNat (List.length points))))) (.jmp (.l4 (IntKind.i64.wrap (h+(1:Int))) (Zq (closed,closed1) (List.getD points (Int.toNat h) (dflt (.int .i64)))).2.1 (Zq (closed,closed1) (List.getD points (Int.toNat h) (dflt (.int .i64)))).2.2)) (.no)) (.jmp (.l11 closed closed1 1 (Zy (Int.ofNat (List.length t))).1 [s] (Zy (Int.ofNat (List.length t))).2)) |.l11 closed closed1 len seen open_ seen1=>.br (decide ((Int.ofNat len) > (0:Int))) (.br ((decide ((0:Int)≤(IntKind.i64.wrap ((Int.ofNat len) - (1:Int)))))&&(decide ((IntKind.i64.wrap ((Int.ofNat len) - (1:Int))) < (Int.ofNat len)))) (.br ((decide ((0:Int)≤(IntKind.i64.wrap ((Int.ofNat len) - (1:Int)))))&&(decide ((IntKind.i64.wrap ((Int.ofNat len) - (1:Int)))≤(Int.ofNat len)))) (.br (Zev t (List.getD open_ (Int.toNat (IntKind.i64.wrap ((Int.ofNat len) - (1:Int)))) (dflt (.int .i64)))) (.jmp (.l17 closed closed1 (Int.toNat (IntKind.i64.wrap ((Int.ofNat len) - (1:Int)))) (0:Int) seen open_ seen1 (Int.ofNat (List.length (Zaa t (List.getD open_ (Int.toNat (IntKind.i64.wrap ((Int.ofNat len) - (1:Int)))) (dflt (.int .i64)))))) (Zaa t (List.getD open_ (Int.toNat (IntKind.i64.wrap ((Int.ofNat len) - (1:Int)))) (dflt (.int .i64)))))) (.no)) (.no)) (.no)) (.br (Zbk (seen,seen1)) (.leaf (ZbJ (seen,seen1)).1) (.no)) |.l17 closed closed1 len h seen open_ seen1 h1 h2=>.br (decide (h < h1)) (.br ((decide ((0:Int)≤h))&&(decide (h < (Int.ofNat (List.length h2))))) (.br (! (Zp (closed,closed1) (List.getD h2 (Int.toNat h) (dflt (.int .i64)))).1) (.br (Zq (seen,seen1) (List.getD h2 (Int.toNat h) (dflt (.int .i64)))).1 (.br ((decide ((0:Int)≤(List.getD h2 (Int.toNat h) (dflt (.int .i64)))))&&(decide ((List.getD h2 (Int.toNat h) (dflt (.int .i64))) < (Int.ofNat (List.length t))))) (.br (Zew (List.getD t (Int.toNat (List.getD h2 (Int.toNat h) (dflt (.int .i64)))) (dflt Za))) (.br (! (ZgP (List.getD t (Int.toNat (List.getD h2 (Int.toNat h) (dflt (.int .i64)))) (dflt Za)))) (.br (Nat.ble (((List.length (List.take len open_))+1)*8) limit) (.jmp (.l17 (Zp (closed,closed1) (List.getD h2 (Int.toNat h) (dflt (.int .i64)))).2.1 (Zp (closed,closed1) (List.getD h2 (Int.toNat h) (dflt (.int .i64)))).2.2 (List.length ((List.take len open_)++[(List.getD h2 (Int.toNat h) (dflt (.int .i64)))])) (IntKind.i64.wrap (h+(1:Int))) (Zq (seen,seen1) (List.getD h2 (Int.toNat h) (dflt (.int .i64)))).2.1 ((List.take len open_)++[(List.getD h2 (Int.toNat h) (dflt (.int .i64)))]) (Zq (seen,seen1) (List.getD h2 (Int.toNat h) (dflt (.int .i64)))).2.2 h1 h2)) (.no)) (.jmp (.l17 (Zp (closed,closed1) (List.getD h2 (Int.toNat h) (dflt (.int .i64)))).2.1 (Zp (closed,closed1) (List.getD h2 (Int.toNat h) (dflt (.int .i64)))).2.2 len (IntKind.i64.wrap (h+(1:Int))) (Zq (seen,seen1) (List.getD h2 (Int.toNat h) (dflt (.int .i64)))).2.1 open_ (Zq (seen,seen1) (List.getD h2 (Int.toNat h) (dflt (.int .i64)))).2.2 h1 h2))) (.no)) (.no)) (.jmp (.l17 (Zp (closed,closed1) (List.getD h2 (Int.toNat h) (dflt (.int .i64)))).2.1 (Zp (closed,closed1) (List.getD h2 (Int.toNat h) (dflt (.int .i64)))).2.2 len (IntKind.i64.wrap (h+(1:Int))) (Zq (seen,seen1) (List.getD h2 (Int.toNat h) (dflt (.int .i64)))).2.1 open_ (Zq (seen,seen1) (List.getD h2 (Int.toNat h) (dflt (.int .i64)))).2.2 h1 h2))) (.jmp (.l17 (Zp (closed,closed1) (List.getD h2 (Int.toNat h) (dflt (.int .i64)))).2.1 (Zp (closed,closed1) (List.getD h2 (Int.toNat h) (dflt (.int .i64)))).2.2 len (IntKind.i64.wrap (h+(1:Int))) seen open_ seen1 h1 h2))) (.no)) (.jmp (.l11 closed closed1 len seen open_ seen1))
def Zsd (t:List (El Za)) (points:List Int) (s:Int):JT Zlf (List Int):=.jmp (.l4 (0:Int) (Zy (Int.ofNat (List.length t))).1 (Zy (Int.ofNat (List.length t))).2)
def ZoU:List Int→AV:=fun (r:List Int)=>.rw 3 (.int .i64) r
def ZgB (t:List (El Za)) (points:List Int) (s:Int):Zlf→Nat×St |.l4 h closed closed1=>(4,⟨mkTm 82 [(2,.d (.int .i64) s),(3,.pt 4 0 0),(7,.pt 8 0 0),(8,.pt 9 0 0),(23,.d (.sl (.int .i64)) points),(24,.d (.int .i64) (Int.ofNat (List.length points))),(25,.d (.int .i64) h)],[(4,0,.box 34 [.d (.sl Za) t] none),(8,0,.box 103 [.d (.int .i64) closed,.mp 8194 0] none),(9,0,.box 103 [.d (.int .i64) (Zy (Int.ofNat (List.length t))).1,.mp 9218 0] none),(8194,0,.map (.int .i64) (.int .u64) closed1),(9218,0,.map (.int .i64) (.int .u64) (Zy (Int.ofNat (List.length t))).2)]⟩) |.l11 closed closed1 len seen open_ seen1=>(11,⟨mkTm 82 [(3,.pt 4 0 0),(7,.pt 8 0 0),(8,.pt 9 0 0),(11,.own 12 0 (some len))],[(4,0,.box 34 [.d (.sl Za) t] none),(8,0,.box 103 [.d (.int .i64) closed,.mp 8194 0] none),(9,0,.box 103 [.d (.int .i64) seen,.mp 9218 0] none),(12,0,.row 3 (.int .i64) open_ false),(8194,0,.map (.int .i64) (.int .u64) closed1),(9218,0,.map (.int .i64) (.int .u64) seen1)]⟩) |.l17 closed closed1 len h seen open_ seen1 h1 h2=>(17,⟨mkTm 82 [(3,.pt 4 0 0),(7,.pt 8 0 0),(8,.pt 9 0 0),(11,.own 12 0 (some len)),(51,.own 52 0 none),(52,.d (.int .i64) h1),(53,.d (.int .i64) h)],[(4,0,.box 34 [.d (.sl Za) t] none),(8,0,.box 103 [.d (.int .i64) closed,.mp 8194 0] none),(9,0,.box 103 [.d (.int .i64) seen,.mp 9218 0] none),(12,0,.row 3 (.int .i64) open_ false),(52,0,.row 3 (.int .i64) h2 false),(8194,0,.map (.int .i64) (.int .u64) closed1),(9218,0,.map (.int .i64) (.int .u64) seen1)]⟩)
theorem ZIP (t:List (El Za)) (points:List Int) (s:Int) (L:Lt):entryA Go.Proofs.Tryz.prog (clOf ZuP) ZsC Go.Proofs.Tryz.f56 ZpD L (toForms Zht (t,points,s,()))=(Zsd t points s).run (fun v=>some (ZoU v,tps (toForms Zht (t,points,s,())))) fun j=>L (ZgB t points s j).1 (ZgB t points s j).2:=by kernel_rfl
theorem ZIU (t:List (El Za)) (points:List Int) (s:Int):∀(L:Lt) (j:Zlf),procOf (procsF Go.Proofs.Tryz.prog (clOf ZuP) ZsC Go.Proofs.Tryz.f56 ZpD (toForms Zht (t,points,s,()))) (ZgB t points s j).1 L (ZgB t points s j).2=(ZbZ t points s j).run (fun v=>some (ZoU v,tps (toForms Zht (t,points,s,())))) fun j=>L (ZgB t points s j).1 (ZgB t points s j).2 | L,.l4 h closed closed1=>by kernel_rfl | L,.l11 closed closed1 len seen open_ seen1=>by kernel_rfl | L,.l17 closed closed1 len h seen open_ seen1 h1 h2=>by kernel_rfl
end
end Go.Ev
end

section
open Go
namespace Go.Ev
theorem ZPz {i:El Za} (h:smallText i.2.2.2.2.2.1=true):Zew i=true:=by
 have h0:ZU i=true:=h
 have a:Zax i=true:=by unfold Zax;simp only[h0,cond_true,Bool.cond_self]
 unfold Zew
 simp only[h0,a,cond_true,Bool.cond_self]
end Go.Ev
end

section
open Go
namespace Go.Ev
def fenceAtT (t:List (El Za)) (k:Nat):Bool:=ZgP (t.getD k (dflt Za))
def stepB (t:List (El Za)) (points:List Int) (k j:Nat):Bool:=!fenceAtT t k&&(nextB t (k:Int) j&& !points.contains (j:Int))
def firstB (t:List (El Za)) (points:List Int) (s:Int) (j:Nat):Bool:=nextB t s j&& !points.contains (j:Int)
noncomputable def endsB (t:List (El Za)) (points:List Int) (s:Int) (j:Nat):Bool:=comeB (stepB t points) (firstB t points s) j
theorem ZES {t:List (El Za)} {points:List Int} {k j:Nat} (h:stepB t points k j=true):j < t.length:=by
 unfold stepB at h
 simp only[Bool.and_eq_true] at h
 exact ZdV h.2.1
theorem ZHk {t:List (El Za)} {points:List Int} {s:Int} {j:Nat} (h:firstB t points s j=true):j < t.length:=by
 unfold firstB at h
 simp only[Bool.and_eq_true] at h
 exact ZdV h.1
end Go.Ev
end

section
open Go
namespace Go.Ev
noncomputable def ZP (t:List (El Za)) (points:List Int) (s:Int):List Int:=listOf t.length (endsB t points s)
def ZbY (t:List (El Za)) (points:List Int) (s:Int):Bool:=flowOK t&&decide (points.length < 4611686018427387904)
def goB (t:List (El Za)) (points:List Int) (x:Int) (j:Nat):Bool:=nextB t x j&& !points.contains (j:Int)
def nodeP (t:List (El Za)) (s:Int) (M:Nat→Bool) (x:Int):Prop:=x=s∨∃j:Nat,x=(j:Int)∧M j=true∧fenceAtT t j=false
theorem ZMj {l:List Int} {n:Nat} (h:n+1≤l.length):l.take (n+1)=l.take n++[l.getD n 0]:=by
 have hn:n < l.length:=by omega
 rw[List.take_succ_eq_append_getElem hn,ZG hn]
theorem ZKq (t:List (El Za)) (points:List Int) (s:Int) (hk:ZbY t points s=true):Goes (ZbZ t points s) (Zsd t points s) (ZP t points s):=by
 unfold ZbY at hk
 rw[Bool.and_eq_true] at hk
 obtain ⟨hf,hpl⟩:=hk
 have hpl:=of_decide_eq_true hpl
 have hlen:=ZbS hf
 generalize hn:t.length=n at hlen
 have kfe:∀k,k < n→Zew (List.getD t k (dflt Za))=true:=fun k hk=>by
  have hmem:t.getD k (dflt Za)∈t:=by rw[ZG (by omega)];exact List.getElem_mem (by omega)
  exact ZPz (Zpl hf hmem)
 have main:∀(C:Nat→Bool) (cl:Int×List (Int×Int)),SetOK cl n C→(∀j,j < n→C j=points.contains (j:Int))→∀m,∀(M:Nat→Bool) (se:Int×List (Int×Int)) (open_:List Int) (len:Nat),len≤open_.length→2*(n - card n M)+len=m→SetOK se n M→
   (∀j,M j=true→Come (stepB t points) (firstB t points s) j)→(∀x∈open_.take len,nodeP t s M x)→(∀x,nodeP t s M x→x∈open_.take len∨∀j,goB t points x j=true→M j=true)→len≤card n M+1→
   Goes (ZbZ t points s) (.jmp (.l11 cl.1 cl.2 len se.1 open_ se.2)) (ZP t points s):=by
  intro C cl hcl hC m
  induction m using Nat.strongRecOn with
  | _ m ih=>
  intro M se open_ len hl hm hs h1 h2 h3 h5
  cases len with
  | zero=>
   rw[Zi,ZbZ,Ze,if_neg (by decide)]
   have hkl:Zbk (se.1,se.2)=true:=Nat.ble_eq_true_of_le (by have:=hs.few;unfold limit;show se.2.length*512≤_;omega)
   rw[Ze,if_pos hkl]
   have hv:(ZbJ (se.1,se.2)).1=ZP t points s:=by
    show listS se=_
    rw[hs.list (by omega)]
    unfold ZP endsB
    rw[hn]
    refine Zsv fun j _=>Zpk (fun j hj=>?_) (fun k j hk hj=>?_) h1 j
    ·rcases h3 s (.inl rfl) with h | h
     ·simp at h
     ·exact h j hj
    ·unfold stepB at hj
     rw[Bool.and_eq_true] at hj
     rcases h3 (k:Int) (.inr ⟨k,rfl,hk,by simpa using hj.1⟩) with h | h
     ·simp at h
     ·exact h j hj.2
   rw[hv];exact .leaf
  | succ len=>
   have hc:= @Ze1 n M
   have e:IntKind.i64.wrap (Int.ofNat (len+1) - 1)=(len:Int):=by
    rw[wrap_i64 (by simp <;> omega) (by simp <;> omega)];simp
   have g1:decide (Int.ofNat (len+1) > (0:Int))=true:=decide_eq_true (by simp <;> omega)
   have g2:(decide ((0:Int)≤(len:Int))&&decide ((len:Int) < Int.ofNat (len+1)))=true:=Zas (by omega)
   have g3:(decide ((0:Int)≤(len:Int))&&decide ((len:Int)≤Int.ofNat (len+1)))=true:=by simp;omega
   rw[Zi,ZbZ,e,Ze,if_pos g1,Ze,if_pos g2,Ze,if_pos g3,Int.toNat_natCast]
   have htk:=ZMj hl
   generalize hx0:open_.getD len 0=x0 at htk
   have hd:open_.getD len (dflt (.int .i64))=x0:=hx0
   rw[hd]
   have kn:Zev t x0=true:=hf
   rw[Ze,if_pos kn]
   have hnode:=h2 x0 (by rw[htk];simp)
   generalize hr:Zaa t x0=r
   have hrm:∀y∈r,∃j:Nat,j < n∧nextB t x0 j=true∧y=(j:Int):=fun y hy=>by
    rw[←hr] at hy
    unfold Zaa at hy
    rw[hn] at hy
    exact Zcv.1 hy
   have hrl:r.length≤n:=by rw[←hr];unfold Zaa;rw[Zh2,hn];exact Ze1
   have hin:∀j:Nat,nextB t x0 j=true→(j:Int)∈r:=fun j hj=>by rw[←hr];exact Zcv.2 ⟨j,ZdV hj,hj,rfl⟩
   have inner:∀h,h≤r.length→∀(M1:Nat→Bool) (se1:Int×List (Int×Int)) (op1:List Int) (len1:Nat),len1≤op1.length→2*(n - card n M1)+len1 < m→SetOK se1 n M1→nodeP t s M1 x0→
     (∀j,M1 j=true→Come (stepB t points) (firstB t points s) j)→(∀x∈op1.take len1,nodeP t s M1 x)→(∀x,nodeP t s M1 x→x∈op1.take len1∨∀j,goB t points x j=true→M1 j=true∨(x=x0∧(j:Int)∈r.drop h))→len1≤card n M1+1→
     Goes (ZbZ t points s) (.jmp (.l17 cl.1 cl.2 len1 (h:Int) se1.1 op1 se1.2 (Int.ofNat r.length) r)) (ZP t points s):=by
    refine down ?_ fun h hh ih2=>?_
    ·intro M1 se1 op1 len1 i1 i2 i3 i4 i5 i6 i7 i8
     rw[Zi,ZbZ,Ze,if_neg (by rw[Zw (Nat.lt_irrefl _)];decide)]
     refine ih _ i2 M1 se1 op1 len1 i1 rfl i3 i5 i6 (fun x hx=>(i7 x hx).imp id fun h j hj=>(h j hj).resolve_right (by simp)) i8
    ·intro M1 se1 op1 len1 i1 i2 i3 i4 i5 i6 i7 i8
     obtain ⟨y,hy,hyN,hxy⟩:=hrm r[h] (List.getElem_mem hh)
     have hdy:List.getD r h (dflt (.int .i64))=(y:Int):=by rw[←hxy];exact ZG hh
     have hhas:(Zp (cl.1,cl.2) (y:Int)).1=points.contains (y:Int):=by
      show hasS cl (y:Int)=_
      rw[hcl.has (by omega),Int.toNat_natCast,decide_eq_true (by omega),Bool.true_and,hC y hy]
     have hhas2:(Zp (cl.1,cl.2) (y:Int)).2=cl:=rfl
     have hput:Zq (se1.1,se1.2) (y:Int)=putS se1 (y:Int):=rfl
     have hdr:∀z,z∈r.drop h↔z=(y:Int)∨z∈r.drop (h+1):=fun z=>by rw[ZN hh,List.mem_cons,hxy]
     rw[Zi,ZbZ,Ze,if_pos (ZQ hh),Ze,if_pos (Zas hh),Ze,Int.toNat_natCast,hdy,hhas,hhas2,hput,Zs (by omega)]
     have skip:(goB t points x0 y=true→M1 y=true)→Goes (ZbZ t points s) (.jmp (.l17 cl.1 cl.2 len1 ((h+1:Nat):Int) se1.1 op1 se1.2 (Int.ofNat r.length) r)) (ZP t points s):=fun hsk=>
      ih2 M1 se1 op1 len1 i1 i2 i3 i4 i5 i6 (fun x hx=>(i7 x hx).imp id fun hg j hj=>by
       rcases hg j hj with h | ⟨hx0,h⟩
       ·exact .inl h
       ·rcases (hdr _).1 h with h | h
        ·have:j=y:=by omega
         subst this
         rw[hx0] at hj
         exact .inl (hsk hj)
        ·exact .inr ⟨hx0,h⟩) i8
     cases hpt:points.contains (y:Int) with
     | true=>
      rw[if_neg (by decide)]
      exact skip fun h=>by unfold goB at h;rw[hpt,Bool.not_true,Bool.and_false] at h;cases h
     | false=>
      rw[if_pos (by decide),Ze]
      cases hMy:M1 y with
      | true=>
       have hno:=i3.put_no (by omega) (i:=(y:Int)) (fun h=>by rw[Int.toNat_natCast,hMy] at h;cases h.2.2)
       rw[hno,if_neg (by simp)]
       exact skip fun _=>hMy
      | false=>
       obtain ⟨p1,p2⟩:=i3.put (by omega) hy hMy
       have hgo:goB t points x0 y=true:=by unfold goB;rw[hyN,hpt];rfl
       have hcome:Come (stepB t points) (firstB t points s) y:=by
        rcases i4 with h | ⟨k,hk,hMk,hfk⟩
        ·subst h;exact .start hgo
        ·subst hk;exact .step (i5 k hMk) (by unfold stepB;rw[hfk];exact hgo)
       have hcard:=Zmz hMy hy
       have hcl2:= @Ze1 n (fun k=>M1 k || (k==y))
       have mono:∀x,nodeP t s M1 x→nodeP t s (fun k=>M1 k || (k==y)) x:=fun x hx=>hx.imp id fun ⟨k,h1,h2,h3⟩=>⟨k,h1,by show (M1 k || (k==y))=true;rw[h2];rfl,h3⟩
       have hcc:∀k,(M1 k || (k==y))=true→Come (stepB t points) (firstB t points s) k:=fun k hk=>by
        simp only[Bool.or_eq_true,beq_iff_eq] at hk
        rcases hk with hk | hk
        ·exact i5 k hk
        ·subst hk;exact hcome
       have keep:∀(o:List Int),(∀x∈op1.take len1,x∈o)→(fenceAtT t y=false→(y:Int)∈o)→∀x,nodeP t s (fun k=>M1 k || (k==y)) x→x∈o∨∀j,goB t points x j=true→(M1 j || (j==y))=true∨(x=x0∧(j:Int)∈r.drop (h+1)):=fun o ho hyo x hx=>by
        have old:nodeP t s M1 x→x∈o∨∀j,goB t points x j=true→(M1 j || (j==y))=true∨(x=x0∧(j:Int)∈r.drop (h+1)):=fun hx=>by
         rcases i7 x hx with h | h
         ·exact .inl (ho x h)
         ·refine .inr fun j hj=>?_
          rcases h j hj with h | ⟨hx0,h⟩
          ·exact .inl (by rw[h];rfl)
          ·rcases (hdr _).1 h with h | h
           ·have:j=y:=by omega
            subst this;exact .inl (by simp)
           ·exact .inr ⟨hx0,h⟩
        rcases hx with hx | ⟨k,hk,hMk,hfk⟩
        ·exact old (.inl hx)
        ·have hMk:(M1 k || (k==y))=true:=hMk
         simp only[Bool.or_eq_true,beq_iff_eq] at hMk
         rcases hMk with hMk | hMk
         ·exact old (.inr ⟨k,hk,hMk,hfk⟩)
         ·subst hMk;subst hk;exact .inl (hyo hfk)
       have vf:ZgP (List.getD t y (dflt Za))=fenceAtT t y:=rfl
       rw[p1,if_pos rfl,Ze,hn,if_pos (Zas hy),Ze,Int.toNat_natCast,if_pos (kfe y hy),Ze,vf]
       cases hfy:fenceAtT t y with
       | true=>
        rw[if_neg (by decide)]
        exact ih2 _ _ op1 len1 i1 (by omega) p2 (mono x0 i4) hcc (fun x hx=>mono x (i6 x hx)) (keep _ (fun x hx=>hx) (fun h=>by rw[hfy] at h;cases h)) (by omega)
       | false=>
        have htl:(op1.take len1).length=len1:=by rw[List.length_take];omega
        rw[if_pos (by decide),Ze,if_pos (Nat.ble_eq_true_of_le (by rw[htl];unfold limit;omega))]
        have htake:(op1.take len1++[(y:Int)]).take (op1.take len1++[(y:Int)]).length=op1.take len1++[(y:Int)]:=List.take_length
        have hl2:(op1.take len1++[(y:Int)]).length=len1+1:=by rw[List.length_append,htl];rfl
        refine ih2 _ _ (op1.take len1++[(y:Int)]) _ (Nat.le_refl _) (by omega) p2 (mono x0 i4) hcc (fun x hx=>?_) ?_ (by omega)
        ·rw[htake,List.mem_append] at hx
         rcases hx with hx | hx
         ·exact mono x (i6 x hx)
         ·simp only[List.mem_singleton] at hx
          exact .inr ⟨y,hx,by simp,hfy⟩
        ·rw[htake]
         exact keep _ (fun x hx=>List.mem_append_left _ hx) (fun _=>List.mem_append_right _ (by simp))
   refine inner 0 (Nat.zero_le _) M se open_ len (by omega) (by omega) hs hnode h1 (fun x hx=>h2 x (by rw[htk];simp[hx])) (fun x hx=>?_) (by omega)
   rcases h3 x hx with h | h
   ·rw[htk,List.mem_append] at h
    rcases h with h | h
    ·exact .inl h
    ·simp only[List.mem_singleton] at h
     refine .inr fun j hj=>.inr ⟨h,?_⟩
     subst h
     unfold goB at hj
     rw[Bool.and_eq_true] at hj
     rw[List.drop_zero]
     exact hin j hj.1
   ·exact .inr fun j hj=>.inl (h j hj)
 have hnew:Zy (Int.ofNat (List.length t))=((n:Int),[]):=by
  rw[hn]
  unfold Zy
  simp
  omega
 have first:∀h,h≤points.length→∀(C:Nat→Bool) (cl:Int×List (Int×Int)),SetOK cl n C→(∀j:Nat,j < n→((C j=true∨(j:Int)∈points.drop h)↔(j:Int)∈points))→Goes (ZbZ t points s) (.jmp (.l4 (h:Int) cl.1 cl.2)) (ZP t points s):=by
  refine down ?_ fun h hh ih=>?_
  ·intro C cl hcl hC
   rw[Zi,ZbZ,Ze,if_neg (by rw[Zw (Nat.lt_irrefl _)];decide),hnew]
   refine main C cl hcl (fun j hj=>?_) _ (fun _=>false) ((n:Int),[]) [s] 1 (by simp) rfl (SetOK.new n) (fun j h=>by cases h) (fun x hx=>.inl (by simpa using hx)) (fun x hx=>.inl ?_) (by omega)
   ·have:=hC j hj
    rw[List.drop_length] at this
    rw[Bool.eq_iff_iff,List.contains_iff_mem,←this]
    simp
   ·rcases hx with hx | ⟨j,_,h,_⟩
    ·simpa using hx
    ·cases h
  ·intro C cl hcl hC
   rw[Zi,ZbZ,Ze,if_pos (ZQ hh),Ze,if_pos (Zas hh),Int.toNat_natCast,Zs (by omega)]
   have hd:points.getD h (dflt (.int .i64))=points[h]:=ZG hh
   rw[hd]
   have hput:Zq (cl.1,cl.2) points[h]=putS cl points[h]:=rfl
   rw[hput]
   have hdr:∀z,z∈points.drop h↔z=points[h]∨z∈points.drop (h+1):=fun z=>by rw[ZN hh,List.mem_cons]
   generalize points[h]=x at hdr
   by_cases hx:0≤x∧x < n∧C x.toNat=false
   ·obtain ⟨y,rfl⟩:=Int.eq_ofNat_of_zero_le hx.1
    rw[Int.toNat_natCast] at hx
    obtain ⟨_,p2⟩:=hcl.put (by omega) (show y < n by omega) hx.2.2
    refine ih _ _ p2 fun j hj=>?_
    rw[←hC j hj,hdr]
    simp only[Bool.or_eq_true,beq_iff_eq]
    constructor
    ·rintro ((h | h) | h)
     ·exact .inl h
     ·exact .inr (.inl (by omega))
     ·exact .inr (.inr h)
    ·rintro (h | h | h)
     ·exact .inl (.inl h)
     ·exact .inl (.inr (by omega))
     ·exact .inr h
   ·rw[hcl.put_no (by omega) hx]
    refine ih C cl hcl fun j hj=>?_
    rw[←hC j hj,hdr]
    constructor
    ·rintro (h | h)
     ·exact .inl h
     ·exact .inr (.inr h)
    ·rintro (h | h | h)
     ·exact .inl h
     ·left
      cases hCj:C j with
      | true=>rfl
      | false=>exact absurd ⟨by omega,by omega,by rw[←h,Int.toNat_natCast];exact hCj⟩ hx
     ·exact .inr h
 unfold Zsd
 rw[hnew]
 exact first 0 (Nat.zero_le _) (fun _=>false) ((n:Int),[]) (SetOK.new n) fun j _=>by simp
end Go.Ev
end

section
open Go Go.Ev
namespace Go.Ev
noncomputable section
noncomputable def Zuq:Run:=entG Zht ZoU (fun a=>ZbY a.1 a.2.1 a.2.2.1) (fun a=>ZP a.1 a.2.1 a.2.2.1)
theorem ZxE:EntOK Go.Proofs.Tryz.prog 56 Zuq:=ZJ (tb:=ZsC) (c:=ZpD) ZJr (by kernel_rfl) (by kernel_rfl) (by kernel_rfl) (fun a=>by kernel_rfl) fun ⟨t,points,s,_⟩ hk=>Zn (c:=ZpD) (K:=fun v=>(ZoU v,tps (toForms Zht (t,points,s,())))) (S:=ZgB t points s) (by kernel_rfl) (ZIP t points s) (ZIU t points s) (ZKq t points s hk)
end
end Go.Ev
end

section
open Go Go.Ev
namespace Go.Ev
noncomputable section
def Zaz:Sig:=[(false,(.sl (.int .i64))),(false,(.int .i64))]
noncomputable def Zc1:Tbl:=[]
theorem Zl0:∀p∈Zc1,EntOK Go.Proofs.Tryz.prog p.1 p.2:=Zu
noncomputable def ZbF:Code:=Go.Proofs.Tryz.f107.body.getD .skip
def Zcm:Tb:=[(3,⟨[0,1,7,8],[]⟩)]
inductive Za5 where | l3 (h:Int)
def Za4 (s:List Int) (v_:Int):Za5→JT Za5 (Int) |.l3 h=>.br (decide (h < (Int.ofNat (List.length s)))) (.br ((decide ((0:Int)≤h))&&(decide (h < (Int.ofNat (List.length s))))) (.br (v_==(List.getD s (Int.toNat h) (dflt (.int .i64)))) (.leaf h) (.jmp (.l3 (IntKind.i64.wrap (h+(1:Int)))))) (.no)) (.leaf (-1:Int))
def Zf2 (s:List Int) (v_:Int):JT Za5 (Int):=.jmp (.l3 (0:Int))
def ZbE:Int→AV:=fun (r:Int)=>.d (.int .i64) r
def Zap (s:List Int) (v_:Int):Za5→Nat×St |.l3 h=>(3,⟨mkTm 19 [(0,.d (.sl (.int .i64)) s),(1,.d (.int .i64) v_),(7,.d (.int .i64) (Int.ofNat (List.length s))),(8,.d (.int .i64) h)],[]⟩)
theorem Zl3 (s:List Int) (v_:Int) (L:Lt):entryA Go.Proofs.Tryz.prog (clOf Zc1) Zcm Go.Proofs.Tryz.f107 ZbF L (toForms Zaz (s,v_,()))=(Zf2 s v_).run (fun v=>some (ZbE v,tps (toForms Zaz (s,v_,())))) fun j=>L (Zap s v_ j).1 (Zap s v_ j).2:=by kernel_rfl
theorem Zl1 (s:List Int) (v_:Int):∀(L:Lt) (j:Za5),procOf (procsF Go.Proofs.Tryz.prog (clOf Zc1) Zcm Go.Proofs.Tryz.f107 ZbF (toForms Zaz (s,v_,()))) (Zap s v_ j).1 L (Zap s v_ j).2=(Za4 s v_ j).run (fun v=>some (ZbE v,tps (toForms Zaz (s,v_,())))) fun j=>L (Zap s v_ j).1 (Zap s v_ j).2 | L,.l3 h=>by kernel_rfl
end
end Go.Ev
end

section
open Go
namespace Go.Ev
def indexI (v:Int):List Int→Nat→Int
 | [],_=> -1
 | x :: r,k=>if v=x then (k:Int) else indexI v r (k+1)
theorem ZJg {v:Int} :∀ {l:List Int} {k:Nat},decide (indexI v l k≥0)=l.contains v
 | [],k=>rfl
 | x :: r,k=>by
  unfold indexI
  rw[List.contains_cons]
  by_cases h:v=x
  ·subst h;rw[if_pos rfl];simp
  ·rw[if_neg h,ZJg]
   have:(v==x)=false:=by simpa using h
   rw[this,Bool.false_or]
def Za2 (s:List Int) (v:Int):Int:=indexI v s 0
def ZaE (s:List Int) (v:Int):Bool:=decide (s.length < 4611686018427387904)
theorem Zns (s:List Int) (v:Int) (hk:ZaE s v=true):Goes (Za4 s v) (Zf2 s v) (Za2 s v):=by
 have hn:s.length < 4611686018427387904:=of_decide_eq_true hk
 have loop:∀k,k≤s.length→Goes (Za4 s v) (.jmp (.l3 (k:Int))) (indexI v (s.drop k) k):=by
  refine down ?_ fun k hk ih=>?_
  ·rw[Zi,Za4,Ze,if_neg (by rw[Zw (Nat.lt_irrefl _)];decide),List.drop_length]
   exact .leaf
  ·have hd:s.getD k (dflt (.int .i64))=s[k]:=ZG hk
   rw[Zi,Za4,Ze,if_pos (ZQ hk),Ze,if_pos (Zas hk),Ze,Int.toNat_natCast,hd,ZN hk,indexI,Zs (by omega)]
   by_cases h:v=s[k]
   ·rw[if_pos h,if_pos (by simpa using h)];exact .leaf
   ·rw[if_neg h,if_neg (by simpa using h)];exact ih
 exact loop 0 (Nat.zero_le _)
end Go.Ev
end

section
open Go Go.Ev
namespace Go.Ev
noncomputable section
noncomputable def Zgi:Run:=entG Zaz ZbE (fun a=>ZaE a.1 a.2.1) (fun a=>Za2 a.1 a.2.1)
theorem ZlZ:EntOK Go.Proofs.Tryz.prog 107 Zgi:=ZJ (tb:=Zcm) (c:=ZbF) Zl0 (by kernel_rfl) (by kernel_rfl) (by kernel_rfl) (fun a=>by kernel_rfl) fun ⟨s,v_,_⟩ hk=>Zn (c:=ZbF) (K:=fun v=>(ZbE v,tps (toForms Zaz (s,v_,())))) (S:=Zap s v_) (by kernel_rfl) (Zl3 s v_) (Zl1 s v_) (Zns s v_ hk)
end
end Go.Ev
end

section
open Go Go.Ev
namespace Go.Ev
noncomputable section
def Zah:Sig:=[(false,(.sl (.int .i64))),(false,(.int .i64))]
noncomputable def Zb2:Tbl:=[(107,Zgi)]
theorem ZjI:∀p∈Zb2,EntOK Go.Proofs.Tryz.prog p.1 p.2:=Zg ZlZ (Zu)
noncomputable def Zbe:Code:=Go.Proofs.Tryz.f78.body.getD .skip
def ZbV:Tb:=[]
def Zet (s:List Int) (v_:Int):Empty→JT Empty (Bool):=fun j=>nomatch j
def ZdZ (s:List Int) (v_:Int):JT Empty (Bool):=.br (ZaE s v_) (.leaf (decide ((Za2 s v_)≥(0:Int)))) (.no)
def ZaL (s:List Int) (v_:Int):Bool:=bif (ZaE s v_) then (decide ((Za2 s v_)≥(0:Int))) else false
def Z8 (s:List Int) (v_:Int):Bool:=bif (ZaE s v_) then true else false
theorem Zko (s:List Int) (v_:Int) (hk:Z8 s v_=true):Goes (Zet s v_) (ZdZ s v_) (ZaL s v_):=Goes.brk hk (fun hk=>Goes.leaf) (fun hk=>Goes.nok hk)
def Zbd:Bool→AV:=fun (r:Bool)=>.d .bool r
def Z9 (s:List Int) (v_:Int):Empty→Nat×St:=fun j=>nomatch j
theorem ZjH (s:List Int) (v_:Int) (L:Lt):entryA Go.Proofs.Tryz.prog (clOf Zb2) ZbV Go.Proofs.Tryz.f78 Zbe L (toForms Zah (s,v_,()))=(ZdZ s v_).run (fun v=>some (Zbd v,tps (toForms Zah (s,v_,())))) fun j=>L (Z9 s v_ j).1 (Z9 s v_ j).2:=by kernel_rfl
theorem ZjG (s:List Int) (v_:Int):∀(L:Lt) (j:Empty),procOf (procsF Go.Proofs.Tryz.prog (clOf Zb2) ZbV Go.Proofs.Tryz.f78 Zbe (toForms Zah (s,v_,()))) (Z9 s v_ j).1 L (Z9 s v_ j).2=(Zet s v_ j).run (fun v=>some (Zbd v,tps (toForms Zah (s,v_,())))) fun j=>L (Z9 s v_ j).1 (Z9 s v_ j).2:=fun L j=>nomatch j
noncomputable def Zeu:Run:=entG Zah Zbd (fun a=>Z8 a.1 a.2.1) (fun a=>ZaL a.1 a.2.1)
theorem ZjP:EntOK Go.Proofs.Tryz.prog 78 Zeu:=ZJ (tb:=ZbV) (c:=Zbe) ZjI (by kernel_rfl) (by kernel_rfl) (by kernel_rfl) (fun a=>by kernel_rfl) fun ⟨s,v_,_⟩ hk=>Zn (c:=Zbe) (K:=fun v=>(Zbd v,tps (toForms Zah (s,v_,())))) (S:=Z9 s v_) (by kernel_rfl) (ZjH s v_) (ZjG s v_) (Zko s v_ hk)
end
end Go.Ev
end

section
open Go Go.Ev
namespace Go.Ev
noncomputable section
def Zg3:Sig:=[(true,(.sl Za)),(false,(.sl (.int .i64))),(false,(.int .i64)),(false,(.int .i64))]
noncomputable def ZuV:Tbl:=[(56,Zuq),(78,Zeu)]
theorem ZJs:∀p∈ZuV,EntOK Go.Proofs.Tryz.prog p.1 p.2:=Zg ZxE (Zg ZjP (Zu))
noncomputable def Zps:Code:=Go.Proofs.Tryz.f53.body.getD .skip
def ZrQ:Tb:=[]
def ZzL (t:List (El Za)) (points:List Int) (s:Int) (l:Int):Empty→JT Empty (Bool):=fun j=>nomatch j
def Zyo (t:List (El Za)) (points:List Int) (s:Int) (l:Int):JT Empty (Bool):=.br (ZbY t points s) (.br (Z8 (ZP t points s) l) (.leaf (ZaL (ZP t points s) l)) (.no)) (.no)
def ZdT (t:List (El Za)) (points:List Int) (s:Int) (l:Int):Bool:=bif (ZbY t points s) then bif (Z8 (ZP t points s) l) then (ZaL (ZP t points s) l) else false else false
def ZgX (t:List (El Za)) (points:List Int) (s:Int) (l:Int):Bool:=bif (ZbY t points s) then bif (Z8 (ZP t points s) l) then true else false else false
theorem ZKd (t:List (El Za)) (points:List Int) (s:Int) (l:Int) (hk:ZgX t points s l=true):Goes (ZzL t points s l) (Zyo t points s l) (ZdT t points s l):=Goes.brk hk (fun hk=>Goes.brk hk (fun hk=>Goes.leaf) (fun hk=>Goes.nok hk)) (fun hk=>Goes.nok hk)
def Zpw:Bool→AV:=fun (r:Bool)=>.d .bool r
def Zgs (t:List (El Za)) (points:List Int) (s:Int) (l:Int):Empty→Nat×St:=fun j=>nomatch j
theorem ZI6 (t:List (El Za)) (points:List Int) (s:Int) (l:Int) (L:Lt):entryA Go.Proofs.Tryz.prog (clOf ZuV) ZrQ Go.Proofs.Tryz.f53 Zps L (toForms Zg3 (t,points,s,l,()))=(Zyo t points s l).run (fun v=>some (Zpw v,tps (toForms Zg3 (t,points,s,l,())))) fun j=>L (Zgs t points s l j).1 (Zgs t points s l j).2:=by kernel_rfl
theorem ZJn (t:List (El Za)) (points:List Int) (s:Int) (l:Int):∀(L:Lt) (j:Empty),procOf (procsF Go.Proofs.Tryz.prog (clOf ZuV) ZrQ Go.Proofs.Tryz.f53 Zps (toForms Zg3 (t,points,s,l,()))) (Zgs t points s l j).1 L (Zgs t points s l j).2=(ZzL t points s l j).run (fun v=>some (Zpw v,tps (toForms Zg3 (t,points,s,l,())))) fun j=>L (Zgs t points s l j).1 (Zgs t points s l j).2:=fun L j=>nomatch j
noncomputable def Zzv:Run:=entG Zg3 Zpw (fun a=>ZgX a.1 a.2.1 a.2.2.1 a.2.2.2.1) (fun a=>ZdT a.1 a.2.1 a.2.2.1 a.2.2.2.1)
theorem ZHJ:EntOK Go.Proofs.Tryz.prog 53 Zzv:=ZJ (tb:=ZrQ) (c:=Zps) ZJs (by kernel_rfl) (by kernel_rfl) (by kernel_rfl) (fun a=>by kernel_rfl) fun ⟨t,points,s,l,_⟩ hk=>Zn (c:=Zps) (K:=fun v=>(Zpw v,tps (toForms Zg3 (t,points,s,l,())))) (S:=Zgs t points s l) (by kernel_rfl) (ZI6 t points s l) (ZJn t points s l) (ZKd t points s l hk)
end
end Go.Ev
end

section
open Go Go.Ev
namespace Go.Ev
noncomputable section
def Zfs:Sig:=[(true,Zc)]
noncomputable def Zsg:Tbl:=[(25,Zfn),(53,Zzv)]
theorem ZDK:∀p∈Zsg,EntOK Go.Proofs.Tryz.prog p.1 p.2:=Zg Zgb (Zg ZHJ (Zu))
noncomputable def Znd:Code:=Go.Proofs.Tryz.f31.body.getD .skip
def Zp2:Tb:=[(4,⟨[1,3,7,8,9],[(4,122)]⟩)]
inductive Zje where | l4 (h:Int) (out:List (El Zd))
def Zjz (p:El Zc):Zje→JT Zje (List (El Zd)) |.l4 h out=>.br (decide (h < (Int.ofNat (List.length (Zk p))))) (.br ((decide ((0:Int)≤h))&&(decide (h < (Int.ofNat (List.length (Zk p)))))) (.br ((decide ((0:Int)≤(List.getD (Zk p) (Int.toNat h) (dflt Zd)).1))&&(decide ((List.getD (Zk p) (Int.toNat h) (dflt Zd)).1 < (Int.ofNat (List.length p.2))))) (.br (ZgX (List.getD p.2 (Int.toNat (List.getD (Zk p) (Int.toNat h) (dflt Zd)).1) (dflt (.sl Za))) [] (List.getD (Zk p) (Int.toNat h) (dflt Zd)).2.1 (List.getD (Zk p) (Int.toNat h) (dflt Zd)).2.2) (.br (ZdT (List.getD p.2 (Int.toNat (List.getD (Zk p) (Int.toNat h) (dflt Zd)).1) (dflt (.sl Za))) [] (List.getD (Zk p) (Int.toNat h) (dflt Zd)).2.1 (List.getD (Zk p) (Int.toNat h) (dflt Zd)).2.2) (.br (Nat.ble (((List.length out)+1)*24) limit) (.jmp (.l4 (IntKind.i64.wrap (h+(1:Int))) (out++[(List.getD (Zk p) (Int.toNat h) (dflt Zd))]))) (.no)) (.jmp (.l4 (IntKind.i64.wrap (h+(1:Int))) out))) (.no)) (.no)) (.no)) (.leaf out)
def Zpx (p:El Zc):JT Zje (List (El Zd)):=.br (ZS p) (.jmp (.l4 (0:Int) [])) (.no)
def ZmK:List (El Zd)→AV:=fun (r:List (El Zd))=>.rw 67 Zd r
def ZeW (p:El Zc):Zje→Nat×St |.l4 h out=>(4,⟨mkTm 30 [(1,.pt 2 0 0),(3,.own 4 0 none),(7,.own 8 0 none),(8,.d (.int .i64) (Int.ofNat (List.length (Zk p)))),(9,.d (.int .i64) h)],[(2,0,.box 27 [.d (.sl Zx) p.1,.d (.sl (.sl Za)) p.2] none),(4,0,.row 67 Zd out false),(8,0,.row 67 Zd (Zk p) false)]⟩)
theorem ZGm (p:El Zc) (L:Lt):entryA Go.Proofs.Tryz.prog (clOf Zsg) Zp2 Go.Proofs.Tryz.f31 Znd L (toForms Zfs (p,()))=(Zpx p).run (fun v=>some (ZmK v,tps (toForms Zfs (p,())))) fun j=>L (ZeW p j).1 (ZeW p j).2:=by kernel_rfl
theorem ZEk (p:El Zc):∀(L:Lt) (j:Zje),procOf (procsF Go.Proofs.Tryz.prog (clOf Zsg) Zp2 Go.Proofs.Tryz.f31 Znd (toForms Zfs (p,()))) (ZeW p j).1 L (ZeW p j).2=(Zjz p j).run (fun v=>some (ZmK v,tps (toForms Zfs (p,())))) fun j=>L (ZeW p j).1 (ZeW p j).2 | L,.l4 h out=>by kernel_rfl
end
end Go.Ev
end

section
open Go
namespace Go.Ev
noncomputable def openB (p:El Zc) (x:El Zd):Bool:=ZdT (List.getD p.2 (Int.toNat x.1) (dflt (.sl Za))) [] x.2.1 x.2.2
noncomputable def openK (p:El Zc) (x:El Zd):Bool:=(decide ((0:Int)≤x.1)&&decide (x.1 < Int.ofNat (List.length p.2)))&&ZgX (List.getD p.2 (Int.toNat x.1) (dflt (.sl Za))) [] x.2.1 x.2.2
noncomputable def Zv (p:El Zc):List (El Zd):=(Zk p).filter (openB p)
noncomputable def Zbq (p:El Zc):Bool:=ZS p&&(decide ((Zk p).length < 10000000000)&&(Zk p).all (openK p))
theorem ZIf (p:El Zc) (hk:Zbq p=true):Goes (Zjz p) (Zpx p) (Zv p):=by
 unfold Zbq at hk
 rw[Bool.and_eq_true,Bool.and_eq_true] at hk
 obtain ⟨k1,k2,k3⟩:=hk
 have hN:=of_decide_eq_true k2
 unfold Zpx Zv
 rw[Ze,if_pos k1]
 obtain ⟨l,hl⟩:∃l,Zk p=l:=⟨_,rfl⟩
 rw[hl] at hN k3
 rw[hl]
 have loop:∀k,k≤l.length→∀out:List (El Zd),out.length≤k→Goes (Zjz p) (.jmp (.l4 (k:Int) out)) (out++(l.drop k).filter (openB p)):=by
  refine down ?_ fun k hk ih=>?_
  ·intro out ho
   rw[Zi,Zjz,hl,Ze,if_neg (by rw[Zw (Nat.lt_irrefl _)];decide),List.drop_length]
   simp only[List.filter_nil,List.append_nil]
   exact .leaf
  ·intro out ho
   have b1:Nat.ble ((out.length+1)*24) limit=true:=Nat.ble_eq_true_of_le (by unfold limit;omega)
   have hx:=List.all_eq_true.1 k3 l[k] (List.getElem_mem hk)
   unfold openK at hx
   rw[Bool.and_eq_true] at hx
   rw[Zi,Zjz,hl,ZN hk,List.filter_cons]
   simp only[Ze,ZQ hk,nng,Bool.and_self,if_true,Int.toNat_natCast,ZG hk,b1,Zs (k:=k) (by omega)]
   rw[if_pos hx.1,if_pos hx.2]
   by_cases c:openB p l[k]=true
   ·have c':=c
    unfold openB at c'
    rw[if_pos c',if_pos c]
    have:=ih (out++[l[k]]) (by simp;omega)
    rw[List.append_assoc] at this
    exact this
   ·have c':=c
    unfold openB at c'
    rw[if_neg c',if_neg c]
    exact ih out (by omega)
 have:=loop 0 (Nat.zero_le _) [] (Nat.zero_le _)
 rw[List.nil_append,List.drop_zero] at this
 exact this
end Go.Ev
end

section
open Go Go.Ev
namespace Go.Ev
noncomputable section
noncomputable def Zmd:Run:=entG Zfs ZmK (fun a=>Zbq a.1) (fun a=>Zv a.1)
theorem ZoQ:EntOK Go.Proofs.Tryz.prog 31 Zmd:=ZJ (tb:=Zp2) (c:=Znd) ZDK (by kernel_rfl) (by kernel_rfl) (by kernel_rfl) (fun a=>by kernel_rfl) fun ⟨p,_⟩ hk=>Zn (c:=Znd) (K:=fun v=>(ZmK v,tps (toForms Zfs (p,())))) (S:=ZeW p) (by kernel_rfl) (ZGm p) (ZEk p) (ZIf p hk)
end
end Go.Ev
end

section
open Go Go.Ev
namespace Go.Ev
noncomputable section
def Zn9:Sig:=[(false,(.sl Zd)),(false,(.int .i64))]
noncomputable def ZFl:Tbl:=[]
theorem ZNL:∀p∈ZFl,EntOK Go.Proofs.Tryz.prog p.1 p.2:=Zu
noncomputable def Zzq:Code:=Go.Proofs.Tryz.f24.body.getD .skip
def ZAq:Tb:=[(4,⟨[1,5,8,9,10],[(6,122)]⟩)]
inductive Zv6 where | l4 (h:Int) (out:List (El Zd))
def Zve (l:List (El Zd)) (t:Int):Zv6→JT Zv6 (List (El Zd)) |.l4 h out=>.br (decide (h < (Int.ofNat (List.length l)))) (.br ((decide ((0:Int)≤h))&&(decide (h < (Int.ofNat (List.length l))))) (.br ((List.getD l (Int.toNat h) (dflt Zd)).1==t) (.br (Nat.ble (((List.length out)+1)*24) limit) (.jmp (.l4 (IntKind.i64.wrap (h+(1:Int))) (out++[(List.getD l (Int.toNat h) (dflt Zd))]))) (.no)) (.jmp (.l4 (IntKind.i64.wrap (h+(1:Int))) out))) (.no)) (.leaf out)
def ZIW (l:List (El Zd)) (t:Int):JT Zv6 (List (El Zd)):=.jmp (.l4 (0:Int) [])
def Zzp:List (El Zd)→AV:=fun (r:List (El Zd))=>.rw 67 Zd r
def ZoH (l:List (El Zd)) (t:Int):Zv6→Nat×St |.l4 h out=>(4,⟨mkTm 24 [(1,.d (.int .i64) t),(5,.own 6 0 none),(8,.d (.sl Zd) l),(9,.d (.int .i64) (Int.ofNat (List.length l))),(10,.d (.int .i64) h)],[(6,0,.row 67 Zd out false)]⟩)
theorem ZNh (l:List (El Zd)) (t:Int) (L:Lt):entryA Go.Proofs.Tryz.prog (clOf ZFl) ZAq Go.Proofs.Tryz.f24 Zzq L (toForms Zn9 (l,t,()))=(ZIW l t).run (fun v=>some (Zzp v,tps (toForms Zn9 (l,t,())))) fun j=>L (ZoH l t j).1 (ZoH l t j).2:=by kernel_rfl
theorem ZOn (l:List (El Zd)) (t:Int):∀(L:Lt) (j:Zv6),procOf (procsF Go.Proofs.Tryz.prog (clOf ZFl) ZAq Go.Proofs.Tryz.f24 Zzq (toForms Zn9 (l,t,()))) (ZoH l t j).1 L (ZoH l t j).2=(Zve l t j).run (fun v=>some (Zzp v,tps (toForms Zn9 (l,t,())))) fun j=>L (ZoH l t j).1 (ZoH l t j).2 | L,.l4 h out=>by kernel_rfl
end
end Go.Ev
end

section
open Go Go.Ev
namespace Go.Ev
noncomputable section
def ZfR:Sig:=[(false,.str)]
noncomputable def ZrS:Tbl:=[]
theorem ZGt:∀p∈ZrS,EntOK Go.Proofs.Tryz.prog p.1 p.2:=Zu
noncomputable def ZmX:Code:=Go.Proofs.Tryz.f94.body.getD .skip
def ZpH:Tb:=[(5,⟨[0,3,4,5,10],[(4,256)]⟩),(18,⟨[3,8],[]⟩)]
inductive ZjA where | l5 (line:Int) (out:List (El Zl)) (pos:Nat) (col:Int) | l18 (out:List (El Zl)) (i:Int)
def ZbI (s:ByteArray):ZjA→JT ZjA (List (El Zl)) |.l5 line out pos col=>.br (decide (pos < (ByteArray.size s))) (.br (decide ((Int.ofNat (List.length out)) > (0:Int))) (.br ((decide ((0:Int)≤(IntKind.i64.wrap ((Int.ofNat (List.length out)) - (1:Int)))))&&(decide ((IntKind.i64.wrap ((Int.ofNat (List.length out)) - (1:Int))) < (Int.ofNat (List.length out))))) (.br ((decide ((0:Int)≤(IntKind.i64.wrap ((Int.ofNat (List.length out)) - (1:Int)))))&&(decide ((IntKind.i64.wrap ((Int.ofNat (List.length out)) - (1:Int))) < (Int.ofNat (List.length out))))) (.br (Nat.ble (((List.length (List.set out (Int.toNat (IntKind.i64.wrap ((Int.ofNat (List.length out)) - (1:Int)))) ((List.getD out (Int.toNat (IntKind.i64.wrap ((Int.ofNat (List.length out)) - (1:Int)))) (dflt Zl)).1,((List.getD out (Int.toNat (IntKind.i64.wrap ((Int.ofNat (List.length out)) - (1:Int)))) (dflt Zl)).2.1,((IntKind.i64.wrap ((Int.ofNat pos) - (List.getD out (Int.toNat (IntKind.i64.wrap ((Int.ofNat (List.length out)) - (1:Int)))) (dflt Zl)).2.1)),(List.getD out (Int.toNat (IntKind.i64.wrap ((Int.ofNat (List.length out)) - (1:Int)))) (dflt Zl)).2.2.2)))))+1)*48) limit) (.br ((Int.ofNat (Utf8.decode s pos).1)==(10:Int)) (.jmp (.l5 (IntKind.i64.wrap (line+(1:Int))) ((List.set out (Int.toNat (IntKind.i64.wrap ((Int.ofNat (List.length out)) - (1:Int)))) ((List.getD out (Int.toNat (IntKind.i64.wrap ((Int.ofNat (List.length out)) - (1:Int)))) (dflt Zl)).1,((List.getD out (Int.toNat (IntKind.i64.wrap ((Int.ofNat (List.length out)) - (1:Int)))) (dflt Zl)).2.1,((IntKind.i64.wrap ((Int.ofNat pos) - (List.getD out (Int.toNat (IntKind.i64.wrap ((Int.ofNat (List.length out)) - (1:Int)))) (dflt Zl)).2.1)),(List.getD out (Int.toNat (IntKind.i64.wrap ((Int.ofNat (List.length out)) - (1:Int)))) (dflt Zl)).2.2.2))))++[((Int.ofNat (Utf8.decode s pos).1),((Int.ofNat pos),((0:Int),(line,(col,false)))))]) (pos+(Utf8.decode s pos).2) (1:Int))) (.jmp (.l5 line ((List.set out (Int.toNat (IntKind.i64.wrap ((Int.ofNat (List.length out)) - (1:Int)))) ((List.getD out (Int.toNat (IntKind.i64.wrap ((Int.ofNat (List.length out)) - (1:Int)))) (dflt Zl)).1,((List.getD out (Int.toNat (IntKind.i64.wrap ((Int.ofNat (List.length out)) - (1:Int)))) (dflt Zl)).2.1,((IntKind.i64.wrap ((Int.ofNat pos) - (List.getD out (Int.toNat (IntKind.i64.wrap ((Int.ofNat (List.length out)) - (1:Int)))) (dflt Zl)).2.1)),(List.getD out (Int.toNat (IntKind.i64.wrap ((Int.ofNat (List.length out)) - (1:Int)))) (dflt Zl)).2.2.2))))++[((Int.ofNat (Utf8.decode s pos).1),((Int.ofNat pos),((0:Int),(line,(col,false)))))]) (pos+(Utf8.decode s pos).2) (IntKind.i64.wrap (col+(1:Int)))))) (.no)) (.no)) (.no)) (.br (Nat.ble (((List.length out)+1)*48) limit) (.br ((Int.ofNat (Utf8.decode s pos).1)==(10:Int)) (.jmp (.l5 (IntKind.i64.wrap (line+(1:Int))) (out++[((Int.ofNat (Utf8.decode s pos).1),((Int.ofNat pos),((0:Int),(line,(col,false)))))]) (pos+(Utf8.decode s pos).2) (1:Int))) (.jmp (.l5 line (out++[((Int.ofNat (Utf8.decode s pos).1),((Int.ofNat pos),((0:Int),(line,(col,false)))))]) (pos+(Utf8.decode s pos).2) (IntKind.i64.wrap (col+(1:Int)))))) (.no))) (.br (decide ((Int.ofNat (List.length out)) > (0:Int))) (.br ((decide ((0:Int)≤(IntKind.i64.wrap ((Int.ofNat (List.length out)) - (1:Int)))))&&(decide ((IntKind.i64.wrap ((Int.ofNat (List.length out)) - (1:Int))) < (Int.ofNat (List.length out))))) (.br ((decide ((0:Int)≤(IntKind.i64.wrap ((Int.ofNat (List.length out)) - (1:Int)))))&&(decide ((IntKind.i64.wrap ((Int.ofNat (List.length out)) - (1:Int))) < (Int.ofNat (List.length out))))) (.jmp (.l18 (List.set out (Int.toNat (IntKind.i64.wrap ((Int.ofNat (List.length out)) - (1:Int)))) ((List.getD out (Int.toNat (IntKind.i64.wrap ((Int.ofNat (List.length out)) - (1:Int)))) (dflt Zl)).1,((List.getD out (Int.toNat (IntKind.i64.wrap ((Int.ofNat (List.length out)) - (1:Int)))) (dflt Zl)).2.1,((IntKind.i64.wrap ((Int.ofNat (ByteArray.size s)) - (List.getD out (Int.toNat (IntKind.i64.wrap ((Int.ofNat (List.length out)) - (1:Int)))) (dflt Zl)).2.1)),(List.getD out (Int.toNat (IntKind.i64.wrap ((Int.ofNat (List.length out)) - (1:Int)))) (dflt Zl)).2.2.2)))) (0:Int))) (.no)) (.no)) (.jmp (.l18 out (0:Int)))) |.l18 out i=>.br (decide (i < (Int.ofNat (List.length out)))) (.br ((decide ((0:Int)≤i))&&(decide (i < (Int.ofNat (List.length out))))) (.br ((List.getD out (Int.toNat i) (dflt Zl)).1==(65533:Int)) (.br ((decide ((0:Int)≤i))&&(decide (i < (Int.ofNat (List.length out))))) (.br ((decide ((0:Int)≤i))&&(decide (i < (Int.ofNat (List.length out))))) (.jmp (.l18 (List.set out (Int.toNat i) ((List.getD out (Int.toNat i) (dflt Zl)).1,((List.getD out (Int.toNat i) (dflt Zl)).2.1,((List.getD out (Int.toNat i) (dflt Zl)).2.2.1,((List.getD out (Int.toNat i) (dflt Zl)).2.2.2.1,((List.getD out (Int.toNat i) (dflt Zl)).2.2.2.2.1,((List.getD out (Int.toNat i) (dflt Zl)).2.2.1==(1:Int)))))))) (IntKind.i64.wrap (i+(1:Int))))) (.no)) (.no)) (.br ((decide ((0:Int)≤i))&&(decide (i < (Int.ofNat (List.length out))))) (.jmp (.l18 (List.set out (Int.toNat i) ((List.getD out (Int.toNat i) (dflt Zl)).1,((List.getD out (Int.toNat i) (dflt Zl)).2.1,((List.getD out (Int.toNat i) (dflt Zl)).2.2.1,((List.getD out (Int.toNat i) (dflt Zl)).2.2.2.1,((List.getD out (Int.toNat i) (dflt Zl)).2.2.2.2.1,false)))))) (IntKind.i64.wrap (i+(1:Int))))) (.no))) (.no)) (.leaf out)
def Zqn (s:ByteArray):JT ZjA (List (El Zl)):=.jmp (.l5 (1:Int) [] 0 (1:Int))
def ZmE:List (El Zl)→AV:=fun (r:List (El Zl))=>.rw 130 Zl r
def Ze9 (s:ByteArray):ZjA→Nat×St |.l5 line out pos col=>(5,⟨mkTm 91 [(0,.d .str s),(3,.own 4 0 none),(4,.d (.int .i64) line),(5,.d (.int .i64) col),(10,.it 11 0)],[(4,0,.row 130 Zl out false),(11,0,.sit s pos)]⟩) |.l18 out i=>(18,⟨mkTm 91 [(3,.own 4 0 none),(8,.d (.int .i64) i)],[(4,0,.row 130 Zl out false)]⟩)
theorem ZEL (s:ByteArray) (L:Lt):entryA Go.Proofs.Tryz.prog (clOf ZrS) ZpH Go.Proofs.Tryz.f94 ZmX L (toForms ZfR (s,()))=(Zqn s).run (fun v=>some (ZmE v,tps (toForms ZfR (s,())))) fun j=>L (Ze9 s j).1 (Ze9 s j).2:=by kernel_rfl
theorem ZEI (s:ByteArray):∀(L:Lt) (j:ZjA),procOf (procsF Go.Proofs.Tryz.prog (clOf ZrS) ZpH Go.Proofs.Tryz.f94 ZmX (toForms ZfR (s,()))) (Ze9 s j).1 L (Ze9 s j).2=(ZbI s j).run (fun v=>some (ZmE v,tps (toForms ZfR (s,())))) fun j=>L (Ze9 s j).1 (Ze9 s j).2 | L,.l5 line out pos col=>by kernel_rfl | L,.l18 out i=>by kernel_rfl
end
end Go.Ev
end

section
open Go
namespace Go.Ev
def rawFrom (s:ByteArray):Nat→Nat→Int→Int→List (El Zl)
 | 0,_,_,_=>[]
 | n+1,pos,line,col=>
  if pos < s.size then
   spotAt s pos line col false :: rawFrom s n (pos+(Utf8.decode s pos).2) (Zad line col (Int.ofNat (Utf8.decode s pos).1)).1 (Zad line col (Int.ofNat (Utf8.decode s pos).1)).2
  else []
def tellBad (x:El Zl):El Zl:=(x.1,x.2.1,x.2.2.1,x.2.2.2.1,x.2.2.2.2.1,x.1==(65533:Int)&&x.2.2.1==(1:Int))
def noSize (x:El Zl):El Zl:=(x.1,x.2.1,0,x.2.2.2.1,x.2.2.2.2.1,x.2.2.2.2.2)
theorem ZGB (s:ByteArray):∀(n pos:Nat) (line col:Int),(rawFrom s n pos line col).map tellBad=spotsFrom s n pos line col
 | 0,_,_,_=>rfl
 | n+1,pos,line,col=>by
  unfold rawFrom spotsFrom
  split
  ·rw[List.map_cons,ZGB s n]
   congr 1
   unfold tellBad spotAt badAt
   have e1:(Int.ofNat (Utf8.decode s pos).1==(65533:Int))=decide ((Utf8.decode s pos).1=65533):=by rw[Bool.eq_iff_iff];simp <;> omega
   have e2:(Int.ofNat (Utf8.decode s pos).2==(1:Int))=decide ((Utf8.decode s pos).2=1):=by rw[Bool.eq_iff_iff];simp <;> omega
   simp only[e1,e2]
  ·rfl
def Z4 (s:ByteArray):List (El Zl):=spots s
def Zmr (s:ByteArray):Bool:=smallText s
theorem ZJw (s:ByteArray) (hk:Zmr s=true):Goes (ZbI s) (Zqn s) (Z4 s):=by
 have hs:s.size < 549755813888:=of_decide_eq_true hk
 have loop2:∀(rest pre:List (El Zl)),pre.length+rest.length≤s.size→(∀x∈rest,x.2.2.2.2.2=false)→Goes (ZbI s) (.jmp (.l18 (pre++rest) (pre.length:Int))) (pre++rest.map tellBad):=by
  intro rest
  induction rest with
  | nil=>
   intro pre _ _
   rw[Zi]
   simp[ZbI,Ze,ZT]
  | cons x rest ih=>
   intro pre hl hx
   rw[Zi]
   have hk:pre.length < (pre++x :: rest).length:=by simp
   have hg:(pre++x :: rest).getD pre.length (dflt Zl)=x:=by simp[List.getD]
   have hset:∀y,(pre++x :: rest).set pre.length y=pre++y :: rest:=fun y=>by simp
   have hl':(pre++x :: rest).length≤s.size:=by simpa using hl
   simp only[ZbI,Ze,ZQ hk,nng,Bool.and_self,if_true,Int.toNat_natCast,hg,hset,Zs (k:=pre.length) (by omega)]
   have hb:x.2.2.2.2.2=false:=hx x (by simp)
   have key:∀b,b=(x.1==(65533:Int)&&x.2.2.1==(1:Int))→Goes (ZbI s) (.jmp (.l18 (pre++(x.1,x.2.1,x.2.2.1,x.2.2.2.1,x.2.2.2.2.1,b) :: rest) ((pre.length+1:Nat):Int))) (pre++(x :: rest).map tellBad):=by
    intro b e
    subst e
    have:=ih (pre++[tellBad x]) (by simp at hl ⊢;omega) (fun y hy=>hx y (by simp[hy]))
    simpa[tellBad] using this
   by_cases h:x.1=65533
   ·rw[if_pos (by simp[h])]
    exact key _ (by simp[h])
   ·rw[if_neg (by simp[h])]
    exact key _ (by simp[h])
 have raw_false:∀(n pos:Nat) (line col:Int),∀x∈rawFrom s n pos line col,x.2.2.2.2.2=false:=by
  intro n
  induction n with
  | zero=>intro pos line col x hx;simp[rawFrom] at hx
  | succ n ih=>
   intro pos line col x hx
   unfold rawFrom at hx
   split at hx
   ·rcases List.mem_cons.1 hx with rfl | hx
    ·rfl
    ·exact ih _ _ _ x hx
   ·simp at hx
 have loop1:∀(n pos:Nat) (line col:Int) (done:List (El Zl)) (out:List (El Zl)),s.size - pos < n→pos≤s.size→done.length≤pos→(∀x∈done,x.2.2.2.2.2=false)→
   ((done=[]∧out=[])∨∃ini x,done=ini++[x]∧out=ini++[noSize x]∧∃a m:Nat,x.2.1=(a:Int)∧x.2.2.1=(m:Int)∧a+m=pos)→
   Goes (ZbI s) (.jmp (.l5 line out pos col)) ((done++rawFrom s n pos line col).map tellBad):=by
  intro n
  induction n with
  | zero=>intro pos line col done out h;omega
  | succ n ih=>
   intro pos line col done out hn hp hd hfalse hinv
   rw[Zi]
   simp only[ZbI,Ze]
   by_cases h:pos < s.size
   ·have hle:=ZPw h
    have h1:=ZOf (s:=s) (pos:=pos)
    have hraw:rawFrom s (n+1) pos line col=spotAt s pos line col false :: rawFrom s n (pos+(Utf8.decode s pos).2) (Zad line col (Int.ofNat (Utf8.decode s pos).1)).1 (Zad line col (Int.ofNat (Utf8.decode s pos).1)).2:=by
     rw[rawFrom,if_pos h]
    have hnext:∀(l c:Int),l=(Zad line col (Int.ofNat (Utf8.decode s pos).1)).1→c=(Zad line col (Int.ofNat (Utf8.decode s pos).1)).2→
      Goes (ZbI s) (.jmp (.l5 l (done++[(Int.ofNat (Utf8.decode s pos).1,Int.ofNat pos,0,line,col,false)]) (pos+(Utf8.decode s pos).2) c)) ((done++rawFrom s (n+1) pos line col).map tellBad):=by
     intro l c el ec
     subst el;subst ec
     have e:∀(r:List (El Zl)),done++spotAt s pos line col false :: r=(done++[spotAt s pos line col false])++r:=fun r=>List.append_cons ..
     rw[hraw,e]
     refine ih (pos+(Utf8.decode s pos).2) _ _ (done++[spotAt s pos line col false]) _ (by omega) (by omega) (by simp <;> omega) ?_ (.inr ⟨done,spotAt s pos line col false,rfl,rfl,pos,(Utf8.decode s pos).2,rfl,rfl,rfl⟩)
     intro x hx
     rcases List.mem_append.1 hx with hx | hx
     ·exact hfalse x hx
     ·simp at hx;subst hx;rfl
    have hfin:if (Int.ofNat (Utf8.decode s pos).1==(10:Int))=true then
       Goes (ZbI s) (.jmp (.l5 (IntKind.i64.wrap (line+1)) (done++[(Int.ofNat (Utf8.decode s pos).1,Int.ofNat pos,0,line,col,false)]) (pos+(Utf8.decode s pos).2) 1)) ((done++rawFrom s (n+1) pos line col).map tellBad)
      else Goes (ZbI s) (.jmp (.l5 line (done++[(Int.ofNat (Utf8.decode s pos).1,Int.ofNat pos,0,line,col,false)]) (pos+(Utf8.decode s pos).2) (IntKind.i64.wrap (col+1)))) ((done++rawFrom s (n+1) pos line col).map tellBad):=by
     split
     ·rename_i hr
      exact hnext _ _ (by simp only[Zad,hr,cond_true]) (by simp only[Zad,hr,cond_true])
     ·rename_i hr
      rw[Bool.not_eq_true] at hr
      exact hnext _ _ (by simp only[Zad,hr,cond_false]) (by simp only[Zad,hr,cond_false])
    rcases hinv with ⟨rfl,rfl⟩ | ⟨ini,x,rfl,rfl,a,m,ha,hm,ham⟩
    ·have hb:Nat.ble ((([]:List (El Zl)).length+1)*48) limit=true:=by decide
     simp only[h,decide_true,if_true,hb]
     rw[if_neg (by simp)]
     exact hfin
    ·have hlen:(ini++[noSize x]).length=ini.length+1:=by simp
     have hd2:ini.length+1≤pos:=by simpa using hd
     have hw:IntKind.i64.wrap (Int.ofNat (ini++[noSize x]).length - 1)=(ini.length:Int):=by rw[hlen,wrap_i64 (by simp <;> omega) (by simp <;> omega)];simp
     have hg:(ini++[noSize x]).getD ini.length (dflt Zl)=noSize x:=by simp[List.getD]
     have hset:∀y,(ini++[noSize x]).set ini.length y=ini++[y]:=fun y=>by simp
     have hat:IntKind.i64.wrap (Int.ofNat pos - (noSize x).2.1)=x.2.2.1:=by
      show IntKind.i64.wrap (Int.ofNat pos - x.2.1)=_
      rw[ha,hm,wrap_i64 (by simp <;> omega) (by simp <;> omega)]
      simp;omega
     have hy:((noSize x).1,(noSize x).2.1,x.2.2.1,(noSize x).2.2.2)=x:=rfl
     have hgt:decide (Int.ofNat (ini++[noSize x]).length > 0)=true:=by rw[hlen];simp <;> omega
     have hb:Nat.ble (((ini++[x]).length+1)*48) limit=true:=by
      apply Nat.ble_eq_true_of_le;unfold limit;simp <;> omega
     have hlt:ini.length < (ini++[noSize x]).length:=by simp
     simp only[h,decide_true,if_true,hgt,hw,ZQ hlt,nng,Bool.and_self,Int.toNat_natCast,hg,hset,hat,hy,hb]
     exact hfin
   ·have hend:rawFrom s (n+1) pos line col=[]:=by rw[rawFrom,if_neg h]
    have hpos:pos=s.size:=by omega
    rw[hend,List.append_nil]
    simp only[h,decide_false]
    rw[if_neg (by simp)]
    rcases hinv with ⟨rfl,rfl⟩ | ⟨ini,x,rfl,rfl,a,m,ha,hm,ham⟩
    ·rw[if_neg (by simp)]
     exact loop2 [] [] (by simp) (by simp)
    ·have hlen:(ini++[noSize x]).length=ini.length+1:=by simp
     have hd2:ini.length+1≤pos:=by simpa using hd
     have hw:IntKind.i64.wrap (Int.ofNat (ini++[noSize x]).length - 1)=(ini.length:Int):=by rw[hlen,wrap_i64 (by simp <;> omega) (by simp <;> omega)];simp
     have hg:(ini++[noSize x]).getD ini.length (dflt Zl)=noSize x:=by simp[List.getD]
     have hset:∀y,(ini++[noSize x]).set ini.length y=ini++[y]:=fun y=>by simp
     have hat:IntKind.i64.wrap (Int.ofNat s.size - (noSize x).2.1)=x.2.2.1:=by
      show IntKind.i64.wrap (Int.ofNat s.size - x.2.1)=_
      rw[ha,hm,wrap_i64 (by simp <;> omega) (by simp <;> omega)]
      simp;omega
     have hy:((noSize x).1,(noSize x).2.1,x.2.2.1,(noSize x).2.2.2)=x:=rfl
     have hgt:decide (Int.ofNat (ini++[noSize x]).length > 0)=true:=by rw[hlen];simp <;> omega
     have hlt:ini.length < (ini++[noSize x]).length:=by simp
     simp only[if_true,hgt,hw,ZQ hlt,nng,Bool.and_self,Int.toNat_natCast,hg,hset,hat,hy]
     exact loop2 (ini++[x]) [] (by simp <;> omega) hfalse
 unfold Zqn Z4 spots
 have:=loop1 (s.size+1) 0 1 1 [] [] (by omega) (by omega) (by simp) (by simp) (.inl ⟨rfl,rfl⟩)
 rw[List.nil_append,ZGB] at this
 exact this
end Go.Ev
end

section
open Go Go.Ev
namespace Go.Ev
noncomputable section
noncomputable def Zx2:Run:=entG ZfR ZmE (fun a=>Zmr a.1) (fun a=>Z4 a.1)
theorem ZFO:EntOK Go.Proofs.Tryz.prog 94 Zx2:=ZJ (tb:=ZpH) (c:=ZmX) ZGt (by kernel_rfl) (by kernel_rfl) (by kernel_rfl) (fun a=>by kernel_rfl) fun ⟨s,_⟩ hk=>Zn (c:=ZmX) (K:=fun v=>(ZmE v,tps (toForms ZfR (s,())))) (S:=Ze9 s) (by kernel_rfl) (ZEL s) (ZEI s) (ZJw s hk)
end
end Go.Ev
end

section
open Go Go.Ev
namespace Go.Ev
noncomputable section
def ZhA:Sig:=[]
noncomputable def Zuj:Tbl:=[]
theorem ZJu:∀p∈Zuj,EntOK Go.Proofs.Tryz.prog p.1 p.2:=Zu
noncomputable def Zow:Code:=Go.Proofs.Tryz.f127.body.getD .skip
def Zst:Tb:=[]
def ZAf:Empty→JT Empty (List ByteArray):=fun j=>nomatch j
def ZxS:JT Empty (List ByteArray):=.leaf ([(bs [114,97,120]),(bs [114,98,120]),(bs [114,99,120]),(bs [114,100,120]),(bs [114,115,105]),(bs [114,100,105]),(bs [114,56]),(bs [114,57])])
def ZbU:List ByteArray:=([(bs [114,97,120]),(bs [114,98,120]),(bs [114,99,120]),(bs [114,100,120]),(bs [114,115,105]),(bs [114,100,105]),(bs [114,56]),(bs [114,57])])
theorem ZLh:Goes (ZAf) (ZxS) (ZbU):=Goes.leaf
def ZoI:List ByteArray→AV:=fun (r:List ByteArray)=>.rw 9 .str r
def ZgV:Empty→Nat×St:=fun j=>nomatch j
theorem ZJq (L:Lt):entryA Go.Proofs.Tryz.prog (clOf Zuj) Zst Go.Proofs.Tryz.f127 Zow L (toForms ZhA (()))=(ZxS).run (fun v=>some (ZoI v,tps (toForms ZhA (())))) fun j=>L (ZgV j).1 (ZgV j).2:=by kernel_rfl
theorem ZGJ:∀(L:Lt) (j:Empty),procOf (procsF Go.Proofs.Tryz.prog (clOf Zuj) Zst Go.Proofs.Tryz.f127 Zow (toForms ZhA (()))) (ZgV j).1 L (ZgV j).2=(ZAf j).run (fun v=>some (ZoI v,tps (toForms ZhA (())))) fun j=>L (ZgV j).1 (ZgV j).2:=fun L j=>nomatch j
noncomputable def ZAM:Run:=entT ZhA ZoI (fun a=>ZbU)
theorem ZIK:EntOK Go.Proofs.Tryz.prog 127 ZAM:=Zau (tb:=Zst) (c:=Zow) ZJu (by kernel_rfl) (by kernel_rfl) (by kernel_rfl) (fun a=>by kernel_rfl) fun _=>Zn (c:=Zow) (K:=fun v=>(ZoI v,tps (toForms ZhA (())))) (S:=ZgV) (by kernel_rfl) (ZJq) (ZGJ) (ZLh)
end
end Go.Ev
end

section
open Go Go.Ev
namespace Go.Ev
noncomputable section
def ZiL:Sig:=[]
noncomputable def Zxs:Tbl:=[]
theorem ZJU:∀p∈Zxs,EntOK Go.Proofs.Tryz.prog p.1 p.2:=Zu
noncomputable def Ztp:Code:=Go.Proofs.Tryz.f128.body.getD .skip
def ZuB:Tb:=[]
def ZC4:Empty→JT Empty (List ByteArray):=fun j=>nomatch j
def ZBc:JT Empty (List ByteArray):=.leaf ([(bs []),(bs [109,111,118]),(bs [97,100,100]),(bs [115,117,98]),(bs [97,110,100]),(bs [111,114]),(bs [120,111,114]),(bs [99,109,112]),(bs [120,99,104,103]),(bs [99,109,112,120,99,104,103]),(bs [106,109,112]),(bs []),(bs [109,102,101,110,99,101]),(bs [110,111,112]),(bs [104,108,116])])
def Zdo:List ByteArray:=([(bs []),(bs [109,111,118]),(bs [97,100,100]),(bs [115,117,98]),(bs [97,110,100]),(bs [111,114]),(bs [120,111,114]),(bs [99,109,112]),(bs [120,99,104,103]),(bs [99,109,112,120,99,104,103]),(bs [106,109,112]),(bs []),(bs [109,102,101,110,99,101]),(bs [110,111,112]),(bs [104,108,116])])
theorem ZMv:Goes (ZC4) (ZBc) (Zdo):=Goes.leaf
def Zs8:List ByteArray→AV:=fun (r:List ByteArray)=>.rw 9 .str r
def Zip:Empty→Nat×St:=fun j=>nomatch j
theorem ZKb (L:Lt):entryA Go.Proofs.Tryz.prog (clOf Zxs) ZuB Go.Proofs.Tryz.f128 Ztp L (toForms ZiL (()))=(ZBc).run (fun v=>some (Zs8 v,tps (toForms ZiL (())))) fun j=>L (Zip j).1 (Zip j).2:=by kernel_rfl
theorem ZKA:∀(L:Lt) (j:Empty),procOf (procsF Go.Proofs.Tryz.prog (clOf Zxs) ZuB Go.Proofs.Tryz.f128 Ztp (toForms ZiL (()))) (Zip j).1 L (Zip j).2=(ZC4 j).run (fun v=>some (Zs8 v,tps (toForms ZiL (())))) fun j=>L (Zip j).1 (Zip j).2:=fun L j=>nomatch j
noncomputable def ZC6:Run:=entT ZiL Zs8 (fun a=>Zdo)
theorem ZLe:EntOK Go.Proofs.Tryz.prog 128 ZC6:=Zau (tb:=ZuB) (c:=Ztp) ZJU (by kernel_rfl) (by kernel_rfl) (by kernel_rfl) (fun a=>by kernel_rfl) fun _=>Zn (c:=Ztp) (K:=fun v=>(Zs8 v,tps (toForms ZiL (())))) (S:=Zip) (by kernel_rfl) (ZKb) (ZKA) (ZMv)
end
end Go.Ev
end

section
open Go Go.Ev
namespace Go.Ev
noncomputable section
def ZfT:Sig:=[]
noncomputable def Zsc:Tbl:=[]
theorem ZEc:∀p∈Zsc,EntOK Go.Proofs.Tryz.prog p.1 p.2:=Zu
noncomputable def Zm6:Code:=Go.Proofs.Tryz.f129.body.getD .skip
def ZoX:Tb:=[]
def Zyu:Empty→JT Empty (List ByteArray):=fun j=>nomatch j
def Zv8:JT Empty (List ByteArray):=.leaf ([(bs []),(bs [106,101]),(bs [106,110,101]),(bs [106,108]),(bs [106,108,101]),(bs [106,103]),(bs [106,103,101]),(bs [106,98]),(bs [106,98,101]),(bs [106,97]),(bs [106,97,101])])
def ZcF:List ByteArray:=([(bs []),(bs [106,101]),(bs [106,110,101]),(bs [106,108]),(bs [106,108,101]),(bs [106,103]),(bs [106,103,101]),(bs [106,98]),(bs [106,98,101]),(bs [106,97]),(bs [106,97,101])])
theorem ZI2:Goes (Zyu) (Zv8) (ZcF):=Goes.leaf
def Zl4:List ByteArray→AV:=fun (r:List ByteArray)=>.rw 9 .str r
def ZeU:Empty→Nat×St:=fun j=>nomatch j
theorem ZFd (L:Lt):entryA Go.Proofs.Tryz.prog (clOf Zsc) ZoX Go.Proofs.Tryz.f129 Zm6 L (toForms ZfT (()))=(Zv8).run (fun v=>some (Zl4 v,tps (toForms ZfT (())))) fun j=>L (ZeU j).1 (ZeU j).2:=by kernel_rfl
theorem ZGj:∀(L:Lt) (j:Empty),procOf (procsF Go.Proofs.Tryz.prog (clOf Zsc) ZoX Go.Proofs.Tryz.f129 Zm6 (toForms ZfT (()))) (ZeU j).1 L (ZeU j).2=(Zyu j).run (fun v=>some (Zl4 v,tps (toForms ZfT (())))) fun j=>L (ZeU j).1 (ZeU j).2:=fun L j=>nomatch j
noncomputable def Zyq:Run:=entT ZfT Zl4 (fun a=>ZcF)
theorem ZEy:EntOK Go.Proofs.Tryz.prog 129 Zyq:=Zau (tb:=ZoX) (c:=Zm6) ZEc (by kernel_rfl) (by kernel_rfl) (by kernel_rfl) (fun a=>by kernel_rfl) fun _=>Zn (c:=Zm6) (K:=fun v=>(Zl4 v,tps (toForms ZfT (())))) (S:=ZeU) (by kernel_rfl) (ZFd) (ZGj) (ZI2)
end
end Go.Ev
end

section
open Go Go.Ev
namespace Go.Ev
noncomputable section
def Zhm:Sig:=[(false,.str)]
noncomputable def ZuM:Tbl:=[(127,ZAM),(99,Zml),(128,ZC6),(129,Zyq)]
theorem ZG8:∀p∈ZuM,EntOK Go.Proofs.Tryz.prog p.1 p.2:=Zg ZIK (Zg ZoC (Zg ZLe (Zg ZEy (Zu))))
noncomputable def Zpr:Code:=Go.Proofs.Tryz.f95.body.getD .skip
def Zrs:Tb:=[]
def Zu2 (s:ByteArray):Empty→JT Empty (Bool):=fun j=>nomatch j
def ZrA (s:ByteArray):JT Empty (Bool):=.br (! (eqB s (bs []))) (.br (eqB s (bs [115,121,109])) (.leaf true) (.br (eqB s (bs [116,104,114,101,97,100])) (.leaf true) (.br (eqB s (bs [108,111,99,107])) (.leaf true) (.br (Zak ZbU s) (.br (decide ((Z0 ZbU s)≥(0:Int))) (.leaf true) (.br (Zak Zdo s) (.br (decide ((Z0 Zdo s) > (0:Int))) (.leaf true) (.br (Zak ZcF s) (.leaf (decide ((Z0 ZcF s) > (0:Int)))) (.no))) (.no))) (.no))))) (.leaf false)
def ZuL (s:ByteArray):Bool:=bif (! (eqB s (bs []))) then bif (eqB s (bs [115,121,109])) then true else bif (eqB s (bs [116,104,114,101,97,100])) then true else bif (eqB s (bs [108,111,99,107])) then true else bif (Zak ZbU s) then bif (decide ((Z0 ZbU s)≥(0:Int))) then true else bif (Zak Zdo s) then bif (decide ((Z0 Zdo s) > (0:Int))) then true else bif (Zak ZcF s) then (decide ((Z0 ZcF s) > (0:Int))) else false else false else false else false
def ZsV (s:ByteArray):Bool:=bif (! (eqB s (bs []))) then bif (eqB s (bs [115,121,109])) then true else bif (eqB s (bs [116,104,114,101,97,100])) then true else bif (eqB s (bs [108,111,99,107])) then true else bif (Zak ZbU s) then bif (decide ((Z0 ZbU s)≥(0:Int))) then true else bif (Zak Zdo s) then bif (decide ((Z0 Zdo s) > (0:Int))) then true else bif (Zak ZcF s) then true else false else false else false else true
theorem ZHi (s:ByteArray) (hk:ZsV s=true):Goes (Zu2 s) (ZrA s) (ZuL s):=Goes.brk hk (fun hk=>Goes.brk hk (fun hk=>Goes.leaf) (fun hk=>Goes.brk hk (fun hk=>Goes.leaf) (fun hk=>Goes.brk hk (fun hk=>Goes.leaf) (fun hk=>Goes.brk hk (fun hk=>Goes.brk hk (fun hk=>Goes.leaf) (fun hk=>Goes.brk hk (fun hk=>Goes.brk hk (fun hk=>Goes.leaf) (fun hk=>Goes.brk hk (fun hk=>Goes.leaf) (fun hk=>Goes.nok hk))) (fun hk=>Goes.nok hk))) (fun hk=>Goes.nok hk))))) (fun hk=>Goes.leaf)
def ZpW:Bool→AV:=fun (r:Bool)=>.d .bool r
def ZgY (s:ByteArray):Empty→Nat×St:=fun j=>nomatch j
theorem ZIL (s:ByteArray) (L:Lt):entryA Go.Proofs.Tryz.prog (clOf ZuM) Zrs Go.Proofs.Tryz.f95 Zpr L (toForms Zhm (s,()))=(ZrA s).run (fun v=>some (ZpW v,tps (toForms Zhm (s,())))) fun j=>L (ZgY s j).1 (ZgY s j).2:=by kernel_rfl
theorem ZGP (s:ByteArray):∀(L:Lt) (j:Empty),procOf (procsF Go.Proofs.Tryz.prog (clOf ZuM) Zrs Go.Proofs.Tryz.f95 Zpr (toForms Zhm (s,()))) (ZgY s j).1 L (ZgY s j).2=(Zu2 s j).run (fun v=>some (ZpW v,tps (toForms Zhm (s,())))) fun j=>L (ZgY s j).1 (ZgY s j).2:=fun L j=>nomatch j
end
end Go.Ev
end

section
open Go
namespace Go.Ev
def Ziw (s:ByteArray):Bool:=ZcL s
theorem ZJ7 (s:ByteArray):Goes (Zu2 s) (ZrA s) (Ziw s):=by
 have hk:∀l:List ByteArray,l.length < 100→Zak l s=true:=fun l h=>decide_eq_true (by omega)
 have h1:Zak ZbU s=true:=hk _ (by decide)
 have h2:Zak Zdo s=true:=hk _ (by decide)
 have h3:Zak ZcF s=true:=hk _ (by decide)
 have hku:ZsV s=true:=by
  unfold ZsV
  simp only[h1,h2,h3,cond_true]
  cases eqB s (bs []) <;> cases eqB s (bs [115,121,109]) <;> cases eqB s (bs [116,104,114,101,97,100]) <;> cases eqB s (bs [108,111,99,107]) <;> cases decide (Z0 ZbU s≥0) <;> cases decide (Z0 Zdo s > 0) <;> rfl
 have hv:Ziw s=ZuL s:=by
  unfold Ziw ZuL ZcL
  simp only[h1,h2,h3,cond_true,ZOs]
  have hr:decide (Z0 ZbU s≥0)=(findFrom s ZaH 0).isSome:=by
   unfold Z0
   rw[show ZbU=ZaH from rfl]
   cases findFrom s ZaH 0 <;> simp
  have hR:(ZgO s).2=(findFrom s ZaH 0).isSome:=by
   unfold ZgO
   cases findFrom s ZaH 0 <;> rfl
  rw[hr,hR]
  by_cases h0:s=bs []
  ·subst h0
   decide
  have hidx:∀l:List ByteArray,decide (Z0 (bs [] :: l) s > 0)=(findFrom s l 0).isSome:=by
   intro l
   unfold Z0
   rw[show findFrom s (bs [] :: l) 0=findFrom s l (0+1) by rw[findFrom,if_neg (fun e=>h0 e.symm)],ZtD (k:=0) (j:=0+1)]
   cases h:findFrom s l (0+1) with
   | none=>simp
   | some n=>have:=Zvg h;simp;omega
  have ho:=hidx ZaS
  have hj:=hidx Zal
  rw[show Zdo=bs [] :: ZaS from rfl,ho,show ZcF=bs [] :: Zal from rfl,hj]
  have hO:(ZiM s).2.2=((findFrom s ZaS 0).isSome || (findFrom s Zal 0).isSome):=by
   unfold ZiM
   rw[if_neg h0]
   cases findFrom s ZaS 0 with
   | some k=>rfl
   | none=>cases findFrom s Zal 0 <;> rfl
  rw[hO]
  simp only[h0,decide_false,Bool.not_false,cond_true]
  cases (findFrom s ZaS 0).isSome <;> cases (findFrom s Zal 0).isSome <;> rfl
 rw[hv]
 exact ZHi s hku
end Go.Ev
end

section
open Go Go.Ev
namespace Go.Ev
noncomputable section
noncomputable def ZBo:Run:=entT Zhm ZpW (fun a=>Ziw a.1)
theorem ZHH:EntOK Go.Proofs.Tryz.prog 95 ZBo:=Zau (tb:=Zrs) (c:=Zpr) ZG8 (by kernel_rfl) (by kernel_rfl) (by kernel_rfl) (fun a=>by kernel_rfl) fun ⟨s,_⟩=>Zn (c:=Zpr) (K:=fun v=>(ZpW v,tps (toForms Zhm (s,())))) (S:=ZgY s) (by kernel_rfl) (ZIL s) (ZGP s) (ZJ7 s)
end
end Go.Ev
end

section
open Go Go.Ev
namespace Go.Ev
noncomputable section
def Zeo:Sig:=[(false,(.int .i32))]
noncomputable def ZqG:Tbl:=[]
theorem ZBw:∀p∈ZqG,EntOK Go.Proofs.Tryz.prog p.1 p.2:=Zu
noncomputable def ZkI:Code:=Go.Proofs.Tryz.f96.body.getD .skip
def Zn3:Tb:=[]
def ZwG (r:Int):Empty→JT Empty (Bool):=fun j=>nomatch j
def ZtN (r:Int):JT Empty (Bool):=.br (decide (r≥(97:Int))) (.br (decide (r≤(122:Int))) (.leaf true) (.br (decide (r≥(65:Int))) (.br (decide (r≤(90:Int))) (.leaf true) (.br (r==(95:Int)) (.leaf true) (.br (decide (r≥(161:Int))) (.leaf (decide (r≤(1114111:Int)))) (.leaf false)))) (.br (r==(95:Int)) (.leaf true) (.br (decide (r≥(161:Int))) (.leaf (decide (r≤(1114111:Int)))) (.leaf false))))) (.br (decide (r≥(65:Int))) (.br (decide (r≤(90:Int))) (.leaf true) (.br (r==(95:Int)) (.leaf true) (.br (decide (r≥(161:Int))) (.leaf (decide (r≤(1114111:Int)))) (.leaf false)))) (.br (r==(95:Int)) (.leaf true) (.br (decide (r≥(161:Int))) (.leaf (decide (r≤(1114111:Int)))) (.leaf false))))
def Zkb (r:Int):Bool:=bif (decide (r≥(97:Int))) then bif (decide (r≤(122:Int))) then true else bif (decide (r≥(65:Int))) then bif (decide (r≤(90:Int))) then true else bif (r==(95:Int)) then true else bif (decide (r≥(161:Int))) then (decide (r≤(1114111:Int))) else false else bif (r==(95:Int)) then true else bif (decide (r≥(161:Int))) then (decide (r≤(1114111:Int))) else false else bif (decide (r≥(65:Int))) then bif (decide (r≤(90:Int))) then true else bif (r==(95:Int)) then true else bif (decide (r≥(161:Int))) then (decide (r≤(1114111:Int))) else false else bif (r==(95:Int)) then true else bif (decide (r≥(161:Int))) then (decide (r≤(1114111:Int))) else false
theorem ZEe (r:Int):Goes (ZwG r) (ZtN r) (Zkb r):=Goes.br (Goes.br (Goes.leaf) (Goes.br (Goes.br (Goes.leaf) (Goes.br (Goes.leaf) (Goes.br (Goes.leaf) (Goes.leaf)))) (Goes.br (Goes.leaf) (Goes.br (Goes.leaf) (Goes.leaf))))) (Goes.br (Goes.br (Goes.leaf) (Goes.br (Goes.leaf) (Goes.br (Goes.leaf) (Goes.leaf)))) (Goes.br (Goes.leaf) (Goes.br (Goes.leaf) (Goes.leaf))))
def Zj5:Bool→AV:=fun (r:Bool)=>.d .bool r
def ZdW (r:Int):Empty→Nat×St:=fun j=>nomatch j
theorem ZCe (r:Int) (L:Lt):entryA Go.Proofs.Tryz.prog (clOf ZqG) Zn3 Go.Proofs.Tryz.f96 ZkI L (toForms Zeo (r,()))=(ZtN r).run (fun v=>some (Zj5 v,tps (toForms Zeo (r,())))) fun j=>L (ZdW r j).1 (ZdW r j).2:=by kernel_rfl
theorem ZCz (r:Int):∀(L:Lt) (j:Empty),procOf (procsF Go.Proofs.Tryz.prog (clOf ZqG) Zn3 Go.Proofs.Tryz.f96 ZkI (toForms Zeo (r,()))) (ZdW r j).1 L (ZdW r j).2=(ZwG r j).run (fun v=>some (Zj5 v,tps (toForms Zeo (r,())))) fun j=>L (ZdW r j).1 (ZdW r j).2:=fun L j=>nomatch j
noncomputable def Zvm:Run:=entT Zeo Zj5 (fun a=>Zkb a.1)
theorem ZBN:EntOK Go.Proofs.Tryz.prog 96 Zvm:=Zau (tb:=Zn3) (c:=ZkI) ZBw (by kernel_rfl) (by kernel_rfl) (by kernel_rfl) (fun a=>by kernel_rfl) fun ⟨r,_⟩=>Zn (c:=ZkI) (K:=fun v=>(Zj5 v,tps (toForms Zeo (r,())))) (S:=ZdW r) (by kernel_rfl) (ZCe r) (ZCz r) (ZEe r)
end
end Go.Ev
end

section
open Go Go.Ev
namespace Go.Ev
noncomputable section
def ZfC:Sig:=[(false,(.int .i32))]
noncomputable def ZrG:Tbl:=[]
theorem ZDW:∀p∈ZrG,EntOK Go.Proofs.Tryz.prog p.1 p.2:=Zu
noncomputable def Zmu:Code:=Go.Proofs.Tryz.f97.body.getD .skip
def Zo5:Tb:=[]
def Zyd (r:Int):Empty→JT Empty (Bool):=fun j=>nomatch j
def ZvJ (r:Int):JT Empty (Bool):=.br (decide (r≥(48:Int))) (.leaf (decide (r≤(57:Int)))) (.leaf false)
def Zmb (r:Int):Bool:=bif (decide (r≥(48:Int))) then (decide (r≤(57:Int))) else false
theorem ZG7 (r:Int):Goes (Zyd r) (ZvJ r) (Zmb r):=Goes.br (Goes.leaf) (Goes.leaf)
def Zmp:Bool→AV:=fun (r:Bool)=>.d .bool r
def ZeG (r:Int):Empty→Nat×St:=fun j=>nomatch j
theorem ZEB (r:Int) (L:Lt):entryA Go.Proofs.Tryz.prog (clOf ZrG) Zo5 Go.Proofs.Tryz.f97 Zmu L (toForms ZfC (r,()))=(ZvJ r).run (fun v=>some (Zmp v,tps (toForms ZfC (r,())))) fun j=>L (ZeG r j).1 (ZeG r j).2:=by kernel_rfl
theorem ZEN (r:Int):∀(L:Lt) (j:Empty),procOf (procsF Go.Proofs.Tryz.prog (clOf ZrG) Zo5 Go.Proofs.Tryz.f97 Zmu (toForms ZfC (r,()))) (ZeG r j).1 L (ZeG r j).2=(Zyd r j).run (fun v=>some (Zmp v,tps (toForms ZfC (r,())))) fun j=>L (ZeG r j).1 (ZeG r j).2:=fun L j=>nomatch j
noncomputable def Zx7:Run:=entT ZfC Zmp (fun a=>Zmb a.1)
theorem ZFe:EntOK Go.Proofs.Tryz.prog 97 Zx7:=Zau (tb:=Zo5) (c:=Zmu) ZDW (by kernel_rfl) (by kernel_rfl) (by kernel_rfl) (fun a=>by kernel_rfl) fun ⟨r,_⟩=>Zn (c:=Zmu) (K:=fun v=>(Zmp v,tps (toForms ZfC (r,())))) (S:=ZeG r) (by kernel_rfl) (ZEB r) (ZEN r) (ZG7 r)
end
end Go.Ev
end

section
open Go Go.Ev
namespace Go.Ev
noncomputable section
def ZfZ:Sig:=[(false,.str)]
noncomputable def Zrv:Tbl:=[(94,Zx2),(95,ZBo),(96,Zvm),(97,Zx7)]
theorem ZEo:∀p∈Zrv,EntOK Go.Proofs.Tryz.prog p.1 p.2:=Zg ZFO (Zg ZHH (Zg ZBN (Zg ZFe (Zu))))
noncomputable def ZmG:Code:=Go.Proofs.Tryz.f69.body.getD .skip
def ZqI:Tb:=[(7,⟨[3,4],[]⟩)]
inductive Zji where | l7 (i:Int)
def Zjb (s:ByteArray):Zji→JT Zji (Bool) |.l7 i=>.br (decide (i < (Int.ofNat (List.length (Z4 s))))) (.br ((decide ((0:Int)≤i))&&(decide (i < (Int.ofNat (List.length (Z4 s)))))) (.br (List.getD (Z4 s) (Int.toNat i) (dflt Zl)).2.2.2.2.2 (.leaf false) (.br ((decide ((0:Int)≤i))&&(decide (i < (Int.ofNat (List.length (Z4 s)))))) (.br (! (Zkb (List.getD (Z4 s) (Int.toNat i) (dflt Zl)).1)) (.br (i==(0:Int)) (.leaf false) (.br ((decide ((0:Int)≤i))&&(decide (i < (Int.ofNat (List.length (Z4 s)))))) (.br (! (Zmb (List.getD (Z4 s) (Int.toNat i) (dflt Zl)).1)) (.leaf false) (.jmp (.l7 (IntKind.i64.wrap (i+(1:Int)))))) (.no))) (.jmp (.l7 (IntKind.i64.wrap (i+(1:Int)))))) (.no))) (.no)) (.leaf true)
def ZqC (s:ByteArray):JT Zji (Bool):=.br (Zmr s) (.br (decide ((Int.ofNat (List.length (Z4 s))) < (1:Int))) (.leaf false) (.br (decide ((Int.ofNat (List.length (Z4 s))) > (16:Int))) (.leaf false) (.br (Ziw s) (.leaf false) (.jmp (.l7 (0:Int)))))) (.no)
def Zmg:Bool→AV:=fun (r:Bool)=>.d .bool r
def Zfj (s:ByteArray):Zji→Nat×St |.l7 i=>(7,⟨mkTm 52 [(3,.own 4 0 none),(4,.d (.int .i64) i)],[(4,0,.row 130 Zl (Z4 s) false)]⟩)
theorem ZFV (s:ByteArray) (L:Lt):entryA Go.Proofs.Tryz.prog (clOf Zrv) ZqI Go.Proofs.Tryz.f69 ZmG L (toForms ZfZ (s,()))=(ZqC s).run (fun v=>some (Zmg v,tps (toForms ZfZ (s,())))) fun j=>L (Zfj s j).1 (Zfj s j).2:=by kernel_rfl
theorem ZEn (s:ByteArray):∀(L:Lt) (j:Zji),procOf (procsF Go.Proofs.Tryz.prog (clOf Zrv) ZqI Go.Proofs.Tryz.f69 ZmG (toForms ZfZ (s,()))) (Zfj s j).1 L (Zfj s j).2=(Zjb s j).run (fun v=>some (Zmg v,tps (toForms ZfZ (s,())))) fun j=>L (Zfj s j).1 (Zfj s j).2 | L,.l7 i=>by kernel_rfl
end
end Go.Ev
end

section
open Go
namespace Go.Ev
def Zdr (s:ByteArray):Bool:=nameRight s
def Zb4 (s:ByteArray):Bool:=smallText s
theorem ZJv (s:ByteArray) (hk:Zb4 s=true):Goes (Zjb s) (ZqC s) (Zdr s):=by
 have hs:s.size < 549755813888:=of_decide_eq_true hk
 have hl:(Z4 s).length≤s.size:=ZyI s
 have loop:∀k,k≤(Z4 s).length→Goes (Zjb s) (.jmp (.l7 (k:Int))) (spotsOK k ((Z4 s).drop k)):=by
  refine down ?_ fun k hk ih=>?_
  ·rw[Zi]
   simp[Zjb,Ze,ZT,spotsOK]
  ·rw[Zi]
   dsimp only[Zjb]
   simp only[Ze,ZT,ZQ hk,nng,Bool.and_self,if_true,Int.toNat_natCast,ZG hk,Zs (k:=k) (by omega)]
   rw[ZN hk,spotsOK]
   generalize (Z4 s)[k]=x at*
   unfold spotOK
   rw[show Zkb=ZcW from rfl,show Zmb=ZdU from rfl]
   cases x.2.2.2.2.2
   ·cases ZcW x.1
    ·by_cases h0:k=0
     ·subst h0;simp
     ·have e1:((k:Int)==0)=false:=by rw[Bool.eq_false_iff];simp;omega
      have e2:(k==0)=false:=by rw[Bool.eq_false_iff];simpa using h0
      cases ZdU x.1
      ·simp[e1,e2]
      ·simpa[e1,e2] using ih
    ·simpa using ih
   ·simp
 have hv:Zdr s=(spotsOK 0 (Z4 s)&&(decide (1≤(Z4 s).length)&&(decide ((Z4 s).length≤16)&& !ZcL s))):=rfl
 rw[hv]
 unfold ZqC
 simp only[Ze,show Zmr s=true from hk,if_true,Ziw,ZT]
 by_cases h1:1≤(Z4 s).length
 ·by_cases h2:(Z4 s).length≤16
  ·cases ZcL s
   ·rw[if_neg (by simp <;> omega),if_neg (by simp <;> omega)]
    simpa[h1,h2] using loop 0 (Nat.zero_le _)
   ·rw[if_neg (by simp <;> omega),if_neg (by simp <;> omega)]
    simp
  ·rw[if_neg (by simp <;> omega),if_pos (by simp <;> omega)]
   simp[h2]
 ·rw[if_pos (by simp <;> omega)]
  simp[h1]
end Go.Ev
end

section
open Go Go.Ev
namespace Go.Ev
noncomputable section
noncomputable def Zm2:Run:=entG ZfZ Zmg (fun a=>Zb4 a.1) (fun a=>Zdr a.1)
theorem ZpZ:EntOK Go.Proofs.Tryz.prog 69 Zm2:=ZJ (tb:=ZqI) (c:=ZmG) ZEo (by kernel_rfl) (by kernel_rfl) (by kernel_rfl) (fun a=>by kernel_rfl) fun ⟨s,_⟩ hk=>Zn (c:=ZmG) (K:=fun v=>(Zmg v,tps (toForms ZfZ (s,())))) (S:=Zfj s) (by kernel_rfl) (ZFV s) (ZEn s) (ZJv s hk)
end
end Go.Ev
end

section
open Go Go.Ev
namespace Go.Ev
noncomputable section
def ZfG:Sig:=[(true,(.sl Za))]
noncomputable def Zsm:Tbl:=[]
theorem ZEs:∀p∈Zsm,EntOK Go.Proofs.Tryz.prog p.1 p.2:=Zu
noncomputable def Zl7:Code:=Go.Proofs.Tryz.f98.body.getD .skip
def ZoS:Tb:=[(4,⟨[1,3,4],[]⟩)]
inductive Zju where | l4 (n:Int) (i:Int)
def Zjk (t:List (El Za)):Zju→JT Zju (Int) |.l4 n i=>.br (decide (i < (Int.ofNat (List.length t)))) (.br ((decide ((0:Int)≤i))&&(decide (i < (Int.ofNat (List.length t))))) (.br ((List.getD t (Int.toNat i) (dflt Za)).1 !=(12:Int)) (.jmp (.l4 (IntKind.i64.wrap (n+(1:Int))) (IntKind.i64.wrap (i+(1:Int))))) (.jmp (.l4 n (IntKind.i64.wrap (i+(1:Int)))))) (.no)) (.leaf n)
def Zou (t:List (El Za)):JT Zju (Int):=.jmp (.l4 (0:Int) (0:Int))
def ZmI:Int→AV:=fun (r:Int)=>.d (.int .i64) r
def ZeY (t:List (El Za)):Zju→Nat×St |.l4 n i=>(4,⟨mkTm 22 [(1,.pt 2 0 0),(3,.d (.int .i64) n),(4,.d (.int .i64) i)],[(2,0,.box 34 [.d (.sl Za) t] none)]⟩)
theorem ZD7 (t:List (El Za)) (L:Lt):entryA Go.Proofs.Tryz.prog (clOf Zsm) ZoS Go.Proofs.Tryz.f98 Zl7 L (toForms ZfG (t,()))=(Zou t).run (fun v=>some (ZmI v,tps (toForms ZfG (t,())))) fun j=>L (ZeY t j).1 (ZeY t j).2:=by kernel_rfl
theorem ZFJ (t:List (El Za)):∀(L:Lt) (j:Zju),procOf (procsF Go.Proofs.Tryz.prog (clOf Zsm) ZoS Go.Proofs.Tryz.f98 Zl7 (toForms ZfG (t,()))) (ZeY t j).1 L (ZeY t j).2=(Zjk t j).run (fun v=>some (ZmI v,tps (toForms ZfG (t,())))) fun j=>L (ZeY t j).1 (ZeY t j).2 | L,.l4 n i=>by kernel_rfl
end
end Go.Ev
end

section
open Go
namespace Go.Ev
def Zjw (t:List (El Za)):Int:=(countM t:Int)
def Zl8 (t:List (El Za)):Bool:=decide (t.length < 1099511627776)
theorem ZId (t:List (El Za)) (hk:Zl8 t=true):Goes (Zjk t) (Zou t) (Zjw t):=by
 have hn:t.length < 1099511627776:=of_decide_eq_true hk
 have loop:∀k,k≤t.length→∀n:Nat,n≤k→Goes (Zjk t) (.jmp (.l4 (n:Int) (k:Int))) ((n+countM (t.drop k):Nat):Int):=by
  refine down ?_ fun k hk ih=>?_
  ·intro n hnk
   rw[Zi]
   simp only[Zjk,Ze,Zw (Nat.lt_irrefl _),ZT,List.drop_length]
   simp[countM]
  ·intro n hnk
   rw[Zi]
   simp only[Zjk,Ze,ZQ hk,nng,Bool.and_self,if_true,Int.toNat_natCast,ZG hk,Zs (k:=k) (by omega),Zs (k:=n) (by omega)]
   rw[ZN hk]
   unfold countM
   rw[List.filter_cons]
   split
   ·rename_i h
    have:=ih (n+1) (by omega)
    unfold countM at this
    rw[List.length_cons,show n+((List.filter (fun i=>i.1 !=(12:Int)) (List.drop (k+1) t)).length+1)=n+1+(List.filter (fun i=>i.1 !=(12:Int)) (List.drop (k+1) t)).length by omega]
    exact this
   ·exact ih n (by omega)
 have:=loop 0 (Nat.zero_le _) 0 (Nat.le_refl _)
 unfold Zou Zjw
 simpa using this
end Go.Ev
end

section
open Go Go.Ev
namespace Go.Ev
noncomputable section
noncomputable def ZxR:Run:=entG ZfG ZmI (fun a=>Zl8 a.1) (fun a=>Zjw a.1)
theorem ZEi:EntOK Go.Proofs.Tryz.prog 98 ZxR:=ZJ (tb:=ZoS) (c:=Zl7) ZEs (by kernel_rfl) (by kernel_rfl) (by kernel_rfl) (fun a=>by kernel_rfl) fun ⟨t,_⟩ hk=>Zn (c:=Zl7) (K:=fun v=>(ZmI v,tps (toForms ZfG (t,())))) (S:=ZeY t) (by kernel_rfl) (ZD7 t) (ZFJ t) (ZId t hk)
end
end Go.Ev
end

section
open Go Go.Ev
namespace Go.Ev
noncomputable section
def Zct:Sig:=[(true,Za)]
noncomputable def Zlu:Tbl:=[(130,ZC0),(102,Zmv),(69,Zm2)]
theorem ZyR:∀p∈Zlu,EntOK Go.Proofs.Tryz.prog p.1 p.2:=Zg ZKf (Zg Zp6 (Zg ZpZ (Zu)))
noncomputable def Zic:Code:=Go.Proofs.Tryz.f100.body.getD .skip
def ZjR:Tb:=[(2,⟨[1,26,34,37,44,47],[]⟩),(5,⟨[1,49],[]⟩)]
inductive ZeE where | l2 (h:Bool) | l5 (h:Bool)
def ZeO (i:El Za):ZeE→JT ZeE (Int) |.l2 h=>.br h (.leaf (4:Int)) (.br (i.1==(11:Int)) (.br (decide (i.2.2.1 < (1:Int))) (.jmp (.l5 true)) (.br (decide (i.2.2.1 > (10:Int))) (.jmp (.l5 true)) (.br (i.1 !=(11:Int)) (.jmp (.l5 (i.2.2.1 !=(0:Int)))) (.jmp (.l5 false))))) (.br (i.1 !=(11:Int)) (.jmp (.l5 (i.2.2.1 !=(0:Int)))) (.jmp (.l5 false)))) |.l5 h=>.br h (.leaf (4:Int)) (.br (ZaF i.1) (.br (Zb4 i.2.2.2.2.2.1) (.br (! (Zdr i.2.2.2.2.2.1)) (.leaf (3:Int)) (.leaf (0:Int))) (.no)) (.leaf (0:Int)))
def ZjT (i:El Za):JT ZeE (Int):=.br (decide (i.1 < (1:Int))) (.jmp (.l2 true)) (.br (decide (i.1 > (14:Int))) (.jmp (.l2 true)) (.br (! (Zai i)) (.jmp (.l2 true)) (.br (! (ZaF i.1)) (.jmp (.l2 (! (eqB i.2.2.2.2.2.1 (bs []))))) (.jmp (.l2 false)))))
def ZaY (i:El Za) (h:Bool):Int:=bif h then (4:Int) else bif (ZaF i.1) then bif (Zb4 i.2.2.2.2.2.1) then bif (! (Zdr i.2.2.2.2.2.1)) then (3:Int) else (0:Int) else (0:Int) else (0:Int)
def ZaW (i:El Za) (h:Bool):Bool:=bif h then true else bif (ZaF i.1) then bif (Zb4 i.2.2.2.2.2.1) then bif (! (Zdr i.2.2.2.2.2.1)) then true else true else false else true
theorem ZbR (i:El Za) (h:Bool) (hk:ZaW i h=true):Goes (ZeO i) (.jmp (.l5 h)) (ZaY i h):=Goes.jmp (Goes.brk hk (fun hk=>Goes.leaf) (fun hk=>Goes.brk hk (fun hk=>Goes.brk hk (fun hk=>Goes.brk hk (fun hk=>Goes.leaf) (fun hk=>Goes.leaf)) (fun hk=>Goes.nok hk)) (fun hk=>Goes.leaf)))
def Zbh (i:El Za) (h:Bool):Int:=bif h then (4:Int) else bif (i.1==(11:Int)) then bif (decide (i.2.2.1 < (1:Int))) then ZaY i true else bif (decide (i.2.2.1 > (10:Int))) then ZaY i true else bif (i.1 !=(11:Int)) then ZaY i (i.2.2.1 !=(0:Int)) else ZaY i false else bif (i.1 !=(11:Int)) then ZaY i (i.2.2.1 !=(0:Int)) else ZaY i false
def Zbo (i:El Za) (h:Bool):Bool:=bif h then true else bif (i.1==(11:Int)) then bif (decide (i.2.2.1 < (1:Int))) then ZaW i true else bif (decide (i.2.2.1 > (10:Int))) then ZaW i true else bif (i.1 !=(11:Int)) then ZaW i (i.2.2.1 !=(0:Int)) else ZaW i false else bif (i.1 !=(11:Int)) then ZaW i (i.2.2.1 !=(0:Int)) else ZaW i false
theorem ZcE (i:El Za) (h:Bool) (hk:Zbo i h=true):Goes (ZeO i) (.jmp (.l2 h)) (Zbh i h):=Goes.jmp (Goes.brk hk (fun hk=>Goes.leaf) (fun hk=>Goes.brk hk (fun hk=>Goes.brk hk (fun hk=>ZbR i true hk) (fun hk=>Goes.brk hk (fun hk=>ZbR i true hk) (fun hk=>Goes.brk hk (fun hk=>ZbR i (i.2.2.1 !=(0:Int)) hk) (fun hk=>ZbR i false hk)))) (fun hk=>Goes.brk hk (fun hk=>ZbR i (i.2.2.1 !=(0:Int)) hk) (fun hk=>ZbR i false hk))))
def ZhH (i:El Za):Int:=bif (decide (i.1 < (1:Int))) then Zbh i true else bif (decide (i.1 > (14:Int))) then Zbh i true else bif (! (Zai i)) then Zbh i true else bif (! (ZaF i.1)) then Zbh i (! (eqB i.2.2.2.2.2.1 (bs []))) else Zbh i false
def ZjF (i:El Za):Bool:=bif (decide (i.1 < (1:Int))) then Zbo i true else bif (decide (i.1 > (14:Int))) then Zbo i true else bif (! (Zai i)) then Zbo i true else bif (! (ZaF i.1)) then Zbo i (! (eqB i.2.2.2.2.2.1 (bs []))) else Zbo i false
theorem ZyL (i:El Za) (hk:ZjF i=true):Goes (ZeO i) (ZjT i) (ZhH i):=Goes.brk hk (fun hk=>ZcE i true hk) (fun hk=>Goes.brk hk (fun hk=>ZcE i true hk) (fun hk=>Goes.brk hk (fun hk=>ZcE i true hk) (fun hk=>Goes.brk hk (fun hk=>ZcE i (! (eqB i.2.2.2.2.2.1 (bs []))) hk) (fun hk=>ZcE i false hk))))
def Zih:Int→AV:=fun (r:Int)=>.d (.int .i64) r
def Zcl (i:El Za):ZeE→Nat×St |.l2 h=>(2,⟨mkTm 59 [(1,.pt 2 0 0),(26,.d .bool h)],[(2,0,.box 51 [.d (.int .i64) i.1,.d .bool i.2.1,.d (.int .i64) i.2.2.1,.d (.int .i64) i.2.2.2.1.1,.d (.int .i64) i.2.2.2.1.2.1,.d (.int .i64) i.2.2.2.1.2.2.1,.d (.int .i64) i.2.2.2.1.2.2.2,.d (.int .i64) i.2.2.2.2.1.1,.d (.int .i64) i.2.2.2.2.1.2.1,.d (.int .i64) i.2.2.2.2.1.2.2.1,.d (.int .i64) i.2.2.2.2.1.2.2.2,.d .str i.2.2.2.2.2.1,.d (.sl .str) i.2.2.2.2.2.2] none)]⟩) |.l5 h=>(5,⟨mkTm 59 [(1,.pt 2 0 0),(49,.d .bool h)],[(2,0,.box 51 [.d (.int .i64) i.1,.d .bool i.2.1,.d (.int .i64) i.2.2.1,.d (.int .i64) i.2.2.2.1.1,.d (.int .i64) i.2.2.2.1.2.1,.d (.int .i64) i.2.2.2.1.2.2.1,.d (.int .i64) i.2.2.2.1.2.2.2,.d (.int .i64) i.2.2.2.2.1.1,.d (.int .i64) i.2.2.2.2.1.2.1,.d (.int .i64) i.2.2.2.2.1.2.2.1,.d (.int .i64) i.2.2.2.2.1.2.2.2,.d .str i.2.2.2.2.2.1,.d (.sl .str) i.2.2.2.2.2.2] none)]⟩)
theorem ZyT (i:El Za) (L:Lt):entryA Go.Proofs.Tryz.prog (clOf Zlu) ZjR Go.Proofs.Tryz.f100 Zic L (toForms Zct (i,()))=(ZjT i).run (fun v=>some (Zih v,tps (toForms Zct (i,())))) fun j=>L (Zcl i j).1 (Zcl i j).2:=by kernel_rfl
theorem ZyY (i:El Za):∀(L:Lt) (j:ZeE),procOf (procsF Go.Proofs.Tryz.prog (clOf Zlu) ZjR Go.Proofs.Tryz.f100 Zic (toForms Zct (i,()))) (Zcl i j).1 L (Zcl i j).2=(ZeO i j).run (fun v=>some (Zih v,tps (toForms Zct (i,())))) fun j=>L (Zcl i j).1 (Zcl i j).2 | L,.l2 h=>by kernel_rfl | L,.l5 h=>by kernel_rfl
end
end Go.Ev
end

section
open Go
namespace Go.Ev
def Zpt (op cond:Int) (row nm te:Bool) (h:Bool):Int:=
 bif h then
  (4:Int)
 else bif (bif (op==(10:Int)) then true else (op==(11:Int))) then
  bif true then
   bif (! nm) then
    (3:Int)
   else (0:Int)
  else (0:Int)
 else (0:Int)
def Zs6 (op cond:Int) (row nm te:Bool) (h:Bool):Int:=
 bif h then
  (4:Int)
 else bif (op==(11:Int)) then
  bif (decide (cond < (1:Int))) then
   Zpt op cond row nm te true
  else bif (decide (cond > (10:Int))) then
   Zpt op cond row nm te true
  else bif (op !=(11:Int)) then
   Zpt op cond row nm te (cond !=(0:Int))
  else Zpt op cond row nm te false
 else bif (op !=(11:Int)) then
  Zpt op cond row nm te (cond !=(0:Int))
 else Zpt op cond row nm te false
def refRB (op cond:Int) (row nm te:Bool):Int:=
 bif (decide (op < (1:Int))) then
  Zs6 op cond row nm te true
 else bif (decide (op > (14:Int))) then
  Zs6 op cond row nm te true
 else bif (! row) then
  Zs6 op cond row nm te true
 else bif (! (bif (op==(10:Int)) then true else (op==(11:Int)))) then
  Zs6 op cond row nm te (! te)
 else Zs6 op cond row nm te false
def insRB (op cond:Int) (row nm te:Bool):Int:=
 bif (op==(10:Int)) then
  bif (! (decide (1≤op)&&(decide (op≤14)&&(row&&condOK op cond)))) then
   (4:Int)
  else bif true then
   bif (! nm) then
    (3:Int)
   else (0:Int)
  else (0:Int)
 else bif (! (decide (1≤op)&&(decide (op≤14)&&(row&&condOK op cond)))) then
  (4:Int)
 else bif (! (op==(11:Int))) then
  bif (! te) then
   (4:Int)
  else bif (op==(11:Int)) then
   bif true then
    bif (! nm) then
     (3:Int)
    else (0:Int)
   else (0:Int)
  else (0:Int)
 else bif (op==(11:Int)) then
  bif true then
   bif (! nm) then
    (3:Int)
   else (0:Int)
  else (0:Int)
 else (0:Int)
theorem rightB (op cond:Int) (row nm te:Bool):refRB op cond row nm te=insRB op cond row nm te:=by
 unfold refRB Zs6 Zpt insRB condOK
 have beqs:∀(k c:Int),(k==c)=decide (k=c):=fun k c=>by rw[Bool.eq_iff_iff];simp
 have bnes:∀(k c:Int),(k !=c)=!decide (k=c):=fun k c=>by rw[Bool.eq_iff_iff];simp
 simp only[beqs,bnes]
 by_cases h1:op < 1
 ·have e1:decide (op=10)=false:=by simp;omega
  have e2:decide (op=11)=false:=by simp;omega
  have e3:decide (1≤op)=false:=by simp;omega
  simp[h1,e1,e2,e3]
 by_cases h2:op > 14
 ·have e1:decide (op=10)=false:=by simp;omega
  have e2:decide (op=11)=false:=by simp;omega
  have e3:decide (op≤14)=false:=by simp;omega
  simp[h1,h2,e1,e2,e3]
 have e3:decide (1≤op)=true:=by simp;omega
 have e4:decide (op≤14)=true:=by simp;omega
 by_cases h10:op=10
 ·subst h10
  by_cases hc:cond=0 <;> cases row <;> cases nm <;> simp[hc]
 by_cases h11:op=11
 ·subst h11
  have f1:decide (1≤cond)=!decide (cond < 1):=by by_cases h:cond < 1 <;> simp[h] <;> omega
  have f2:decide (cond≤10)=!decide (cond > 10):=by by_cases h:cond > 10 <;> simp[h] <;> omega
  rw[f1,f2]
  by_cases hc:cond < 1 <;> by_cases hd:cond > 10 <;> cases row <;> cases nm <;> simp[hc,hd]
 by_cases hc:cond=0 <;> cases row <;> cases te <;> simp[h1,h2,h10,h11,e3,e4,hc]
def ZC (i:El Za):Int:=Zz i
def ZB (i:El Za):Bool:=smallText i.2.2.2.2.2.1
theorem ZBn (i:El Za) (hk:ZB i=true):Goes (ZeO i) (ZjT i) (ZC i):=by
 have h1:Zb4 i.2.2.2.2.2.1=true:=hk
 have h2:Zac i.2.2.2.2.2.1=true:=hk
 have hku:ZjF i=true:=by
  unfold ZjF Zbo ZaW
  simp only[h1,cond_true,Bool.cond_self]
 have hr:ZhH i=refRB i.1 i.2.2.1 (Zai i) (nameRight i.2.2.2.2.2.1) (eqB i.2.2.2.2.2.1 (bs [])):=by
  unfold ZhH Zbh ZaY
  simp only[h1]
  rfl
 have hp:ZcZ i=insRB i.1 i.2.2.1 (Zai i) (nameRight i.2.2.2.2.2.1) (eqB i.2.2.2.2.2.1 (bs [])):=by
  unfold ZcZ
  simp only[h2,Zzo]
  rfl
 have e:ZC i=ZhH i:=by
  rw[hr,rightB,←hp]
  rfl
 rw[e]
 exact ZyL i hku
end Go.Ev
end

section
open Go Go.Ev
namespace Go.Ev
noncomputable section
noncomputable def Zck:Run:=entG Zct Zih (fun a=>ZB a.1) (fun a=>ZC a.1)
theorem Zcx:EntOK Go.Proofs.Tryz.prog 100 Zck:=ZJ (tb:=ZjR) (c:=Zic) ZyR (by kernel_rfl) (by kernel_rfl) (by kernel_rfl) (fun a=>by kernel_rfl) fun ⟨i,_⟩ hk=>Zn (c:=Zic) (K:=fun v=>(Zih v,tps (toForms Zct (i,())))) (S:=Zcl i) (by kernel_rfl) (ZyT i) (ZyY i) (ZBn i hk)
end
end Go.Ev
end

section
open Go Go.Ev
namespace Go.Ev
noncomputable section
def Zde:Sig:=[(true,Zc),(true,Zh)]
noncomputable def ZnP:Tbl:=[(105,ZhF)]
theorem ZAb:∀p∈ZnP,EntOK Go.Proofs.Tryz.prog p.1 p.2:=Zg Zi6 (Zu)
noncomputable def ZiV:Code:=Go.Proofs.Tryz.f101.body.getD .skip
def Zk6:Tb:=[]
def ZtA (p:El Zc) (o:El Zh):Empty→JT Empty (Int):=fun j=>nomatch j
def Zrt (p:El Zc) (o:El Zh):JT Empty (Int):=.br (! (ZE o)) (.leaf (0:Int)) (.br (decide (o.2.2.1≥(Int.ofNat (List.length p.1)))) (.leaf (7:Int)) (.br (o.1==(3:Int)) (.br ((decide ((0:Int)≤o.2.2.1))&&(decide (o.2.2.1 < (Int.ofNat (List.length p.1))))) (.br (decide (o.2.2.2≥(List.getD p.1 (Int.toNat o.2.2.1) (dflt Zx)).2.1)) (.leaf (8:Int)) (.leaf (0:Int))) (.no)) (.leaf (0:Int))))
def Zb6 (p:El Zc) (o:El Zh):Int:=bif (! (ZE o)) then (0:Int) else bif (decide (o.2.2.1≥(Int.ofNat (List.length p.1)))) then (7:Int) else bif (o.1==(3:Int)) then bif ((decide ((0:Int)≤o.2.2.1))&&(decide (o.2.2.1 < (Int.ofNat (List.length p.1))))) then bif (decide (o.2.2.2≥(List.getD p.1 (Int.toNat o.2.2.1) (dflt Zx)).2.1)) then (8:Int) else (0:Int) else (0:Int) else (0:Int)
def Zec (p:El Zc) (o:El Zh):Bool:=bif (! (ZE o)) then true else bif (decide (o.2.2.1≥(Int.ofNat (List.length p.1)))) then true else bif (o.1==(3:Int)) then bif ((decide ((0:Int)≤o.2.2.1))&&(decide (o.2.2.1 < (Int.ofNat (List.length p.1))))) then bif (decide (o.2.2.2≥(List.getD p.1 (Int.toNat o.2.2.1) (dflt Zx)).2.1)) then true else true else false else true
theorem ZB2 (p:El Zc) (o:El Zh) (hk:Zec p o=true):Goes (ZtA p o) (Zrt p o) (Zb6 p o):=Goes.brk hk (fun hk=>Goes.leaf) (fun hk=>Goes.brk hk (fun hk=>Goes.leaf) (fun hk=>Goes.brk hk (fun hk=>Goes.brk hk (fun hk=>Goes.brk hk (fun hk=>Goes.leaf) (fun hk=>Goes.leaf)) (fun hk=>Goes.nok hk)) (fun hk=>Goes.leaf)))
def Zi1:Int→AV:=fun (r:Int)=>.d (.int .i64) r
def Zc2 (p:El Zc) (o:El Zh):Empty→Nat×St:=fun j=>nomatch j
theorem ZAD (p:El Zc) (o:El Zh) (L:Lt):entryA Go.Proofs.Tryz.prog (clOf ZnP) Zk6 Go.Proofs.Tryz.f101 ZiV L (toForms Zde (p,o,()))=(Zrt p o).run (fun v=>some (Zi1 v,tps (toForms Zde (p,o,())))) fun j=>L (Zc2 p o j).1 (Zc2 p o j).2:=by kernel_rfl
theorem ZAH (p:El Zc) (o:El Zh):∀(L:Lt) (j:Empty),procOf (procsF Go.Proofs.Tryz.prog (clOf ZnP) Zk6 Go.Proofs.Tryz.f101 ZiV (toForms Zde (p,o,()))) (Zc2 p o j).1 L (Zc2 p o j).2=(ZtA p o j).run (fun v=>some (Zi1 v,tps (toForms Zde (p,o,())))) fun j=>L (Zc2 p o j).1 (Zc2 p o j).2:=fun L j=>nomatch j
noncomputable def ZtE:Run:=entG Zde Zi1 (fun a=>Zec a.1 a.2.1) (fun a=>Zb6 a.1 a.2.1)
theorem ZA1:EntOK Go.Proofs.Tryz.prog 101 ZtE:=ZJ (tb:=Zk6) (c:=ZiV) ZAb (by kernel_rfl) (by kernel_rfl) (by kernel_rfl) (fun a=>by kernel_rfl) fun ⟨p,o,_⟩ hk=>Zn (c:=ZiV) (K:=fun v=>(Zi1 v,tps (toForms Zde (p,o,())))) (S:=Zc2 p o) (by kernel_rfl) (ZAD p o) (ZAH p o) (ZB2 p o hk)
end
end Go.Ev
end

section
open Go Go.Ev
namespace Go.Ev
noncomputable section
def Zhe:Sig:=[(true,(.sl Za)),(false,.str)]
noncomputable def Zum:Tbl:=[(99,Zml)]
theorem ZJC:∀p∈Zum,EntOK Go.Proofs.Tryz.prog p.1 p.2:=Zg ZoC (Zu)
noncomputable def Zqv:Code:=Go.Proofs.Tryz.f103.body.getD .skip
def Zrd:Tb:=[(3,⟨[1,2,5],[]⟩)]
inductive ZlI where | l3 (i:Int)
def Zlz (t:List (El Za)) (label:ByteArray):ZlI→JT ZlI (Int) |.l3 i=>.br (decide (i < (Int.ofNat (List.length t)))) (.br ((decide ((0:Int)≤i))&&(decide (i < (Int.ofNat (List.length t))))) (.br (Zak (List.getD t (Int.toNat i) (dflt Za)).2.2.2.2.2.2 label) (.br (decide ((Z0 (List.getD t (Int.toNat i) (dflt Za)).2.2.2.2.2.2 label)≥(0:Int))) (.leaf i) (.jmp (.l3 (IntKind.i64.wrap (i+(1:Int)))))) (.no)) (.no)) (.leaf (-1:Int))
def ZrN (t:List (El Za)) (label:ByteArray):JT ZlI (Int):=.jmp (.l3 (0:Int))
def ZpQ:Int→AV:=fun (r:Int)=>.d (.int .i64) r
def ZgH (t:List (El Za)) (label:ByteArray):ZlI→Nat×St |.l3 i=>(3,⟨mkTm 23 [(1,.d .str label),(2,.pt 3 0 0),(5,.d (.int .i64) i)],[(3,0,.box 34 [.d (.sl Za) t] none)]⟩)
theorem ZIt (t:List (El Za)) (label:ByteArray) (L:Lt):entryA Go.Proofs.Tryz.prog (clOf Zum) Zrd Go.Proofs.Tryz.f103 Zqv L (toForms Zhe (t,label,()))=(ZrN t label).run (fun v=>some (ZpQ v,tps (toForms Zhe (t,label,())))) fun j=>L (ZgH t label j).1 (ZgH t label j).2:=by kernel_rfl
theorem ZI3 (t:List (El Za)) (label:ByteArray):∀(L:Lt) (j:ZlI),procOf (procsF Go.Proofs.Tryz.prog (clOf Zum) Zrd Go.Proofs.Tryz.f103 Zqv (toForms Zhe (t,label,()))) (ZgH t label j).1 L (ZgH t label j).2=(Zlz t label j).run (fun v=>some (ZpQ v,tps (toForms Zhe (t,label,())))) fun j=>L (ZgH t label j).1 (ZgH t label j).2 | L,.l3 i=>by kernel_rfl
end
end Go.Ev
end

section
open Go
namespace Go.Ev
def ZcQ (t:List (El Za)) (label:ByteArray):Int:=findI label t 0
def Ze8 (t:List (El Za)) (label:ByteArray):Bool:=decide (t.length < 1099511627776)&&t.all fun i=>decide (i.2.2.2.2.2.2.length < 1099511627776)
theorem ZKH (t:List (El Za)) (label:ByteArray) (hk:Ze8 t label=true):Goes (Zlz t label) (ZrN t label) (ZcQ t label):=by
 unfold Ze8 at hk
 simp only[Bool.and_eq_true,decide_eq_true_eq,List.all_eq_true] at hk
 obtain ⟨hn,hl⟩:=hk
 have loop:∀k,k≤t.length→Goes (Zlz t label) (.jmp (.l3 (k:Int))) (findI label (t.drop k) k):=by
  refine down ?_ fun k hk ih=>?_
  ·rw[Zi]
   simp only[Zlz,Ze,Zw (Nat.lt_irrefl _),ZT,List.drop_length]
   simp[findI]
  ·have hli:=hl t[k] (List.getElem_mem hk)
   have hki:Zak t[k].2.2.2.2.2.2 label=true:=decide_eq_true (by omega)
   rw[Zi]
   simp only[Zlz,Ze,ZQ hk,nng,Bool.and_self,if_true,Int.toNat_natCast,ZG hk,Zs (k:=k) (by omega),hki]
   rw[ZN hk]
   unfold findI
   have hi:decide (Z0 t[k].2.2.2.2.2.2 label≥0)=t[k].2.2.2.2.2.2.contains label:=by
    rw[←ZiC (k:=0)]
    unfold Z0
    cases h:findFrom label t[k].2.2.2.2.2.2 0 with
    | none=>rfl
    | some n=>simp
   rw[hi]
   split
   ·exact .leaf
   ·exact ih
 unfold ZrN ZcQ
 simpa using loop 0 (Nat.zero_le _)
end Go.Ev
end

section
open Go Go.Ev
namespace Go.Ev
noncomputable section
noncomputable def Zub:Run:=entG Zhe ZpQ (fun a=>Ze8 a.1 a.2.1) (fun a=>ZcQ a.1 a.2.1)
theorem ZxT:EntOK Go.Proofs.Tryz.prog 103 Zub:=ZJ (tb:=Zrd) (c:=Zqv) ZJC (by kernel_rfl) (by kernel_rfl) (by kernel_rfl) (fun a=>by kernel_rfl) fun ⟨t,label,_⟩ hk=>Zn (c:=Zqv) (K:=fun v=>(ZpQ v,tps (toForms Zhe (t,label,())))) (S:=ZgH t label) (by kernel_rfl) (ZIt t label) (ZI3 t label) (ZKH t label hk)
end
end Go.Ev
end

section
open Go Go.Ev
namespace Go.Ev
noncomputable section
def Zei:Sig:=[(true,Zc),(true,(.sl Za))]
noncomputable def Zpu:Tbl:=[(98,ZxR),(69,Zm2),(99,Zml),(100,Zck),(101,ZtE),(102,Zmv),(103,Zub)]
theorem ZBX:∀p∈Zpu,EntOK Go.Proofs.Tryz.prog p.1 p.2:=Zg ZEi (Zg ZpZ (Zg ZoC (Zg Zcx (Zg ZA1 (Zg Zp6 (Zg ZxT (Zu)))))))
noncomputable def Zj3:Code:=Go.Proofs.Tryz.f70.body.getD .skip
def Znv:Tb:=[(7,⟨[2,3,5,6],[(6,98)]⟩),(14,⟨[2,3,5,6,7,8],[(6,98)]⟩),(44,⟨[3,13],[]⟩)]
inductive ZhO where | l7 (i:Int) (seen:List ByteArray) | l14 (x:Int) (x1:Bool) (x2:Int) (x3:Int) (x4:Int) (x5:Int) (x6:Int) (x7:Int) (x8:Int) (x9:Int) (x10:Int) (x11:ByteArray) (x12:List ByteArray) (k:Int) (seen:List ByteArray) (i:Int) | l44 (i:Int)
def Zbj (p:El Zc) (t:List (El Za)):ZhO→JT ZhO (Int) |.l7 i seen=>.br (decide (i < (Int.ofNat (List.length t)))) (.br ((decide ((0:Int)≤i))&&(decide (i < (Int.ofNat (List.length t))))) (.jmp (.l14 (List.getD t (Int.toNat i) (dflt Za)).1 (List.getD t (Int.toNat i) (dflt Za)).2.1 (List.getD t (Int.toNat i) (dflt Za)).2.2.1 (List.getD t (Int.toNat i) (dflt Za)).2.2.2.1.1 (List.getD t (Int.toNat i) (dflt Za)).2.2.2.1.2.1 (List.getD t (Int.toNat i) (dflt Za)).2.2.2.1.2.2.1 (List.getD t (Int.toNat i) (dflt Za)).2.2.2.1.2.2.2 (List.getD t (Int.toNat i) (dflt Za)).2.2.2.2.1.1 (List.getD t (Int.toNat i) (dflt Za)).2.2.2.2.1.2.1 (List.getD t (Int.toNat i) (dflt Za)).2.2.2.2.1.2.2.1 (List.getD t (Int.toNat i) (dflt Za)).2.2.2.2.1.2.2.2 (List.getD t (Int.toNat i) (dflt Za)).2.2.2.2.2.1 (List.getD t (Int.toNat i) (dflt Za)).2.2.2.2.2.2 (0:Int) seen i)) (.no)) (.br ((Int.ofNat (List.length t))==(0:Int)) (.leaf (9:Int)) (.br ((decide ((0:Int)≤(IntKind.i64.wrap ((Int.ofNat (List.length t)) - (1:Int)))))&&(decide ((IntKind.i64.wrap ((Int.ofNat (List.length t)) - (1:Int))) < (Int.ofNat (List.length t))))) (.br ((List.getD t (Int.toNat (IntKind.i64.wrap ((Int.ofNat (List.length t)) - (1:Int)))) (dflt Za)).1 !=(10:Int)) (.br ((List.getD t (Int.toNat (IntKind.i64.wrap ((Int.ofNat (List.length t)) - (1:Int)))) (dflt Za)).1 !=(14:Int)) (.leaf (9:Int)) (.jmp (.l44 (0:Int)))) (.jmp (.l44 (0:Int)))) (.no))) |.l14 x x1 x2 x3 x4 x5 x6 x7 x8 x9 x10 x11 x12 k seen i=>.br (decide (k < (Int.ofNat (List.length x12)))) (.br ((decide ((0:Int)≤k))&&(decide (k < (Int.ofNat (List.length x12))))) (.br (Zb4 (List.getD x12 (Int.toNat k) (dflt .str))) (.br (! (Zdr (List.getD x12 (Int.toNat k) (dflt .str)))) (.leaf (3:Int)) (.br ((decide ((0:Int)≤k))&&(decide (k < (Int.ofNat (List.length x12))))) (.br (Zak seen (List.getD x12 (Int.toNat k) (dflt .str))) (.br (decide ((Z0 seen (List.getD x12 (Int.toNat k) (dflt .str)))≥(0:Int))) (.leaf (6:Int)) (.br ((decide ((0:Int)≤k))&&(decide (k < (Int.ofNat (List.length x12))))) (.br (Nat.ble (((List.length seen)+1)*16) limit) (.jmp (.l14 x x1 x2 x3 x4 x5 x6 x7 x8 x9 x10 x11 x12 (IntKind.i64.wrap (k+(1:Int))) (seen++[(List.getD x12 (Int.toNat k) (dflt .str))]) i)) (.no)) (.no))) (.no)) (.no))) (.no)) (.no)) (.br (ZB (x,(x1,(x2,((x3,(x4,(x5,x6))),((x7,(x8,(x9,x10))),(x11,x12))))))) (.br ((ZC (x,(x1,(x2,((x3,(x4,(x5,x6))),((x7,(x8,(x9,x10))),(x11,x12))))))) !=(0:Int)) (.leaf (ZC (x,(x1,(x2,((x3,(x4,(x5,x6))),((x7,(x8,(x9,x10))),(x11,x12)))))))) (.br (Zec p (x3,(x4,(x5,x6)))) (.br ((Zb6 p (x3,(x4,(x5,x6)))) !=(0:Int)) (.leaf (Zb6 p (x3,(x4,(x5,x6))))) (.br (Zec p (x7,(x8,(x9,x10)))) (.br ((Zb6 p (x7,(x8,(x9,x10)))) !=(0:Int)) (.leaf (Zb6 p (x7,(x8,(x9,x10))))) (.jmp (.l7 (IntKind.i64.wrap (i+(1:Int))) seen))) (.no))) (.no))) (.no)) |.l44 i=>.br (decide (i < (Int.ofNat (List.length t)))) (.br ((decide ((0:Int)≤i))&&(decide (i < (Int.ofNat (List.length t))))) (.br (ZaF (List.getD t (Int.toNat i) (dflt Za)).1) (.br ((decide ((0:Int)≤i))&&(decide (i < (Int.ofNat (List.length t))))) (.br (Ze8 t (List.getD t (Int.toNat i) (dflt Za)).2.2.2.2.2.1) (.br (decide ((ZcQ t (List.getD t (Int.toNat i) (dflt Za)).2.2.2.2.2.1) < (0:Int))) (.leaf (7:Int)) (.jmp (.l44 (IntKind.i64.wrap (i+(1:Int)))))) (.no)) (.no)) (.jmp (.l44 (IntKind.i64.wrap (i+(1:Int)))))) (.no)) (.leaf (0:Int))
def Znl (p:El Zc) (t:List (El Za)):JT ZhO (Int):=.br (Zl8 t) (.br (decide ((Zjw t) > (4096:Int))) (.leaf (10:Int)) (.jmp (.l7 (0:Int) []))) (.no)
def Zke:Int→AV:=fun (r:Int)=>.d (.int .i64) r
def ZdK (p:El Zc) (t:List (El Za)):ZhO→Nat×St |.l7 i seen=>(7,⟨mkTm 122 [(2,.pt 3 0 0),(3,.pt 4 0 0),(5,.own 6 0 none),(6,.d (.int .i64) i)],[(3,0,.box 27 [.d (.sl Zx) p.1,.d (.sl (.sl Za)) p.2] none),(4,0,.box 34 [.d (.sl Za) t] none),(6,0,.row 9 .str seen false)]⟩) |.l14 x x1 x2 x3 x4 x5 x6 x7 x8 x9 x10 x11 x12 k seen i=>(14,⟨mkTm 122 [(2,.pt 3 0 0),(3,.pt 4 0 0),(5,.own 6 0 none),(6,.d (.int .i64) i),(7,.pt 8 0 0),(8,.d (.int .i64) k)],[(3,0,.box 27 [.d (.sl Zx) p.1,.d (.sl (.sl Za)) p.2] none),(4,0,.box 34 [.d (.sl Za) t] none),(6,0,.row 9 .str seen false),(8,0,.box 51 [.d (.int .i64) x,.d .bool x1,.d (.int .i64) x2,.d (.int .i64) x3,.d (.int .i64) x4,.d (.int .i64) x5,.d (.int .i64) x6,.d (.int .i64) x7,.d (.int .i64) x8,.d (.int .i64) x9,.d (.int .i64) x10,.d .str x11,.d (.sl .str) x12] none)]⟩) |.l44 i=>(44,⟨mkTm 122 [(3,.pt 4 0 0),(13,.d (.int .i64) i)],[(4,0,.box 34 [.d (.sl Za) t] none)]⟩)
theorem ZBS (p:El Zc) (t:List (El Za)) (L:Lt):entryA Go.Proofs.Tryz.prog (clOf Zpu) Znv Go.Proofs.Tryz.f70 Zj3 L (toForms Zei (p,t,()))=(Znl p t).run (fun v=>some (Zke v,tps (toForms Zei (p,t,())))) fun j=>L (ZdK p t j).1 (ZdK p t j).2:=by kernel_rfl
theorem ZBU (p:El Zc) (t:List (El Za)):∀(L:Lt) (j:ZhO),procOf (procsF Go.Proofs.Tryz.prog (clOf Zpu) Znv Go.Proofs.Tryz.f70 Zj3 (toForms Zei (p,t,()))) (ZdK p t j).1 L (ZdK p t j).2=(Zbj p t j).run (fun v=>some (Zke v,tps (toForms Zei (p,t,())))) fun j=>L (ZdK p t j).1 (ZdK p t j).2 | L,.l7 i seen=>by kernel_rfl | L,.l14 x x1 x2 x3 x4 x5 x6 x7 x8 x9 x10 x11 x12 k seen i=>by kernel_rfl | L,.l44 i=>by kernel_rfl
end
end Go.Ev
end

section
open Go
namespace Go.Ev
def Zh0 (p:El Zc) (t:List (El Za)):Int:=threadC p t
def ZkF (p:El Zc) (t:List (El Za)):Bool:=smallThread t
theorem ZKi (len:Nat) (size:Int→Int) (k s n:Int) (h:(k=3∨k=4)→0≤s):
 (bif (! (decide (k=3) || decide (k=4))) then
  (0:Int)
 else bif (decide (s≥(Int.ofNat len))) then
  (7:Int)
 else bif (k==(3:Int)) then
  bif ((decide ((0:Int)≤s))&&(decide (s < (Int.ofNat len)))) then
   bif (decide (n≥size s)) then
    (8:Int)
   else (0:Int)
  else (0:Int)
 else (0:Int))=placeN len size k s n∧
 (bif (! (decide (k=3) || decide (k=4))) then
  true
 else bif (decide (s≥(Int.ofNat len))) then
  true
 else bif (k==(3:Int)) then
  bif ((decide ((0:Int)≤s))&&(decide (s < (Int.ofNat len)))) then
   bif (decide (n≥size s)) then
    true
   else true
  else false
 else true)=true:=by
 unfold placeN
 by_cases h3:k=3
 ·have h0:=h (.inl h3)
  subst h3
  by_cases hl:(len:Int)≤s
  ·simp[hl]
  have h2:s < (len:Int):=by omega
  have h1:¬s < 0:=by omega
  by_cases hn:size s≤n
  ·simp[hl,hn,h0,h1,h2]
  ·simp[hl,hn,h0,h1,h2]
 by_cases h4:k=4
 ·have h0:=h (.inr h4)
  subst h4
  have h1:¬s < 0:=by omega
  by_cases hl:(len:Int)≤s
  ·simp[hl]
  simp[hl,h1]
 simp[h3,h4]
theorem ZC1 (p:El Zc) (o:El Zh) (h:∀k s:Int,o.1=k→o.2.2.1=s→(k=3∨k=4)→0≤s):Zb6 p o=placeC p o∧Zec p o=true:=by
 have:=ZKi p.1.length (fun s=>(List.getD p.1 s.toNat (dflt Zx)).2.1) o.1 o.2.2.1 o.2.2.2 (h _ _ rfl rfl)
 unfold Zb6 Zec
 rw[ZeH]
 exact this
theorem ZDB {k r s n:Int} (h:ZD (k,r,s,n)=true) (hk:k=3∨k=4):0≤s:=by
 unfold ZD at h
 rcases hk with rfl | rfl
 ·by_cases hs:0≤s
  ·exact hs
  ·simp[hs] at h
 ·by_cases hs:0≤s
  ·exact hs
  ·simp[hs] at h
theorem ZPE {i:El Za} (hr:Zz i=0):(∀k s:Int,i.2.2.2.1.1=k→i.2.2.2.1.2.2.1=s→(k=3∨k=4)→0≤s)∧∀k s:Int,i.2.2.2.2.1.1=k→i.2.2.2.2.1.2.2.1=s→(k=3∨k=4)→0≤s:=by
 obtain ⟨h1,h14,hrow⟩:=Zxx hr
 rcases nine i.1 with ⟨h9,_⟩ | ⟨h9,_⟩
 ·obtain ⟨a,b⟩:=ZN2 hrow h1 h9
  exact ⟨fun k s hk hs h=>hs▸ZDB (k:=i.2.2.2.1.1) (r:=i.2.2.2.1.2.1) (s:=i.2.2.2.1.2.2.1) (n:=i.2.2.2.1.2.2.2) a (hk▸h),fun k s hk hs h=>hs▸ZDB (k:=i.2.2.2.2.1.1) (r:=i.2.2.2.2.1.2.1) (s:=i.2.2.2.2.1.2.2.1) (n:=i.2.2.2.2.1.2.2.2) b (hk▸h)⟩
 ·obtain ⟨a,b⟩:=ZLO hrow h9
  refine ⟨fun k s hk hs h=>?_,fun k s hk hs h=>?_⟩
  ·have:k=0:=hk▸a
   omega
  ·have:k=0:=hk▸b
   omega
theorem ZDR (p:El Zc) (t:List (El Za)) (hk:ZkF p t=true):Goes (Zbj p t) (Znl p t) (Zh0 p t):=by
 have hS:=smallT hk
 have hn:=hS.len
 have hkf:∀l,Ze8 t l=true:=fun l=>by
  unfold Ze8
  simp only[Bool.and_eq_true,decide_eq_true_eq,List.all_eq_true]
  exact ⟨hn,fun i hi=>Nat.lt_of_le_of_lt (Zxe hi) hS.labs⟩
 have jmps:∀k,k≤t.length→Goes (Zbj p t) (.jmp (.l44 (k:Int))) (jumpC (labels t) (t.drop k)):=by
  refine down ?_ fun k hk ih=>?_
  ·rw[Zi]
   simp only[Zbj,Ze,Zw (Nat.lt_irrefl _),ZT,List.drop_length]
   simp[jumpC]
  ·rw[Zi]
   simp only[Zbj,Ze,ZQ hk,nng,Bool.and_self,if_true,Int.toNat_natCast,ZG hk,Zs (k:=k) (by omega),hkf,ZOZ]
   have hfi:decide (ZcQ t t[k].2.2.2.2.2.1 < 0)=! (labels t).contains t[k].2.2.2.2.2.1:=ZHc
   rw[hfi,ZN hk]
   unfold jumpC
   by_cases h1:((t[k].1==(10:Int)) || (t[k].1==(11:Int)))=true
   ·rw[if_pos h1,if_pos h1]
    by_cases h2:(labels t).contains t[k].2.2.2.2.2.1=true
    ·rw[if_pos h2,if_neg (by rw[h2];decide)];exact ih
    ·rw[if_neg h2,if_pos (by rw[Bool.eq_false_iff.2 h2];rfl)];exact .leaf
   ·rw[if_neg h1,if_neg h1];exact ih
 have main:∀k,k≤t.length→Goes (Zbj p t) (.jmp (.l7 (k:Int) (labels (t.take k)))) (scanI p (fun seen=>endC t (jumpC seen t)) (labels (t.take k)) (t.drop k)):=by
  refine down ?_ fun k hk ih=>?_
  ·have hj:=jmps 0 (Nat.zero_le _)
   rw[List.drop_zero] at hj
   rw[Zi,List.drop_length,List.take_length]
   unfold scanI
   simp only[Zbj,Ze,Zw (Nat.lt_irrefl _)]
   rw[if_neg (by decide)]
   by_cases h0:t.length=0
   ·have:t=[]:=List.eq_nil_of_length_eq_zero h0
    rw[this];simp[ZT,endC]
   ·have hp:0 < t.length:=by omega
    rw[if_neg (by simp;exact fun e=>h0 (by rw[e];rfl)),ZKE hp]
    rw[show Int.ofNat t.length=(t.length:Int) from rfl,ZHF (k:=t.length) (by omega) hp]
    have hb:(decide (0≤((t.length - 1:Nat):Int))&&decide (((t.length - 1:Nat):Int) < (t.length:Int)))=true:=by simp;omega
    simp only[hb,if_true,Int.toNat_natCast,ZG (show t.length - 1 < t.length by omega)]
    unfold bne
    cases h10:(t[t.length - 1].1==(10:Int)) with
    | true=>simpa using hj
    | false=>
     cases h14:(t[t.length - 1].1==(14:Int)) with
     | true=>simpa using hj
     | false=>simp[ZT]
  ·have hmem:t[k]∈t:=List.getElem_mem hk
   have hto:=hS.to _ hmem
   have hlab:=hS.lab _ hmem
   have hlen:=Nat.lt_of_le_of_lt (Zxe hmem) hS.labs
   have htk:labels (t.take (k+1))=labels (t.take k)++t[k].2.2.2.2.2.2:=by
    unfold labels
    rw[List.take_add_one,List.getElem?_eq_getElem hk,List.flatMap_append]
    simp
   have hall:labels t=labels (t.take (k+1))++labels (t.drop (k+1)):=by
    unfold labels
    rw[←List.flatMap_append,List.take_append_drop]
   have hlt:(labels (t.take (k+1))).length < 1099511627776:=by
    have:=hS.labs
    rw[hall,List.length_append] at this
    omega
   rw[Zi]
   simp only[Zbj,Ze,ZQ hk,nng,Bool.and_self,if_true,Int.toNat_natCast,ZG hk]
   rw[ZN hk]
   unfold scanI
   rw[htk] at ih hlt
   generalize t[k]=i at hto hlab hlen htk ih hlt
   obtain ⟨op,lock,cond,⟨ak,ar,ay,an⟩,⟨bk,br,bz,bn⟩,to,ls⟩:=i
   dsimp only at hto hlab hlen htk ih hlt ⊢
   have inner:∀j,j≤ls.length→Goes (Zbj p t) (.jmp (.l14 op lock cond ak ar ay an bk br bz bn to ls (j:Int) (labels (t.take k)++ls.take j) (k:Int))) (scanL (labels (t.take k)++ls.take j) (fun seen=>if insC p (op,(lock,(cond,((ak,(ar,(ay,an))),((bk,(br,(bz,bn))),(to,ls))))))≠0 then insC p (op,(lock,(cond,((ak,(ar,(ay,an))),((bk,(br,(bz,bn))),(to,ls)))))) else scanI p (fun seen=>endC t (jumpC seen t)) seen (t.drop (k+1))) (ls.drop j)):=by
    refine down ?_ fun j hj ihj=>?_
    ·rw[Zi,List.drop_length,List.take_length]
     unfold scanL
     have hkr:ZB (op,(lock,(cond,((ak,(ar,(ay,an))),((bk,(br,(bz,bn))),(to,ls))))))=true:=hto
     simp only[Zbj,Ze,Zw (Nat.lt_irrefl _),hkr,if_true,Zs (k:=k) (by omega)]
     rw[if_neg (by decide)]
     unfold insC ZC
     dsimp only
     by_cases hr:Zz (op,(lock,(cond,((ak,(ar,(ay,an))),((bk,(br,(bz,bn))),(to,ls))))))=0
     ·obtain ⟨oa,ob⟩:=ZPE hr
      obtain ⟨a1,a2⟩:=ZC1 p (ak,(ar,(ay,an))) oa
      obtain ⟨b1,b2⟩:=ZC1 p (bk,(br,(bz,bn))) ob
      by_cases ha:placeC p (ak,(ar,(ay,an)))=0
      ·by_cases hb:placeC p (bk,(br,(bz,bn)))=0
       ·simp[hr,ha,hb,a1,a2,b1,b2];exact ih
       ·simp[hr,ha,hb,a1,a2,b1,b2,ZT]
      ·simp[hr,ha,a1,a2,ZT]
     ·simp[hr,ZT]
    ·have hl:=hlab ls[j] (List.getElem_mem hj)
     have hkn:Zb4 ls[j]=true:=hl
     have hsl:(labels (t.take k)++ls.take j).length < 1099511627776:=by
      rw[List.length_append] at hlt ⊢
      rw[List.length_take]
      omega
     have hki:Zak (labels (t.take k)++ls.take j) ls[j]=true:=decide_eq_true (by omega)
     have hap:Nat.ble (((labels (t.take k)++ls.take j).length+1)*16) limit=true:=by apply Nat.ble_eq_true_of_le;unfold limit;omega
     have htj:labels (t.take k)++ls.take (j+1)=(labels (t.take k)++ls.take j)++[ls[j]]:=by
      rw[List.take_add_one,List.getElem?_eq_getElem hj,List.append_assoc];rfl
     rw[htj] at ihj
     rw[Zi]
     simp only[Zbj,Ze,ZQ hj,nng,Bool.and_self,if_true,Int.toNat_natCast,ZG hj,Zs (k:=j) (by omega),hkn,hki,hap,ZCk]
     rw[ZN hj]
     unfold scanL
     by_cases h1:nameRight ls[j]=false
     ·rw[if_pos h1,if_pos (by show (! nameRight ls[j])=true;rw[h1];rfl)];exact .leaf
     ·rw[if_neg h1,if_neg (by show ¬(! nameRight ls[j])=true;simpa using h1)]
      by_cases h2:(labels (t.take k)++ls.take j).contains ls[j]=true
      ·rw[if_pos h2,if_pos h2];exact .leaf
      ·rw[if_neg h2,if_neg h2];exact ihj
   have:=inner 0 (Nat.zero_le _)
   rw[List.drop_zero,List.take_zero,List.append_nil] at this
   exact this
 unfold Znl Zh0
 have hkc:Zl8 t=true:=decide_eq_true hn
 simp only[Ze,hkc,if_true]
 unfold threadC Zjw
 by_cases h:4096 < countM t
 ·rw[if_pos (by simp;omega),if_pos h];exact .leaf
 ·rw[if_neg (by simp;omega),if_neg h]
  exact main 0 (Nat.zero_le _)
end Go.Ev
end

section
open Go Go.Ev
namespace Go.Ev
noncomputable section
noncomputable def Zwt:Run:=entG Zei Zke (fun a=>ZkF a.1 a.2.1) (fun a=>Zh0 a.1 a.2.1)
theorem ZBE:EntOK Go.Proofs.Tryz.prog 70 Zwt:=ZJ (tb:=Znv) (c:=Zj3) ZBX (by kernel_rfl) (by kernel_rfl) (by kernel_rfl) (fun a=>by kernel_rfl) fun ⟨p,t,_⟩ hk=>Zn (c:=Zj3) (K:=fun v=>(Zke v,tps (toForms Zei (p,t,())))) (S:=ZdK p t) (by kernel_rfl) (ZBS p t) (ZBU p t) (ZDR p t hk)
end
end Go.Ev
end

section
open Go Go.Ev
namespace Go.Ev
noncomputable section
def Zfx:Sig:=[(true,Zc)]
noncomputable def Zrg:Tbl:=[(69,Zm2),(70,Zwt)]
theorem ZGf:∀p∈Zrg,EntOK Go.Proofs.Tryz.prog p.1 p.2:=Zg ZpZ (Zg ZBE (Zu))
noncomputable def Zme:Code:=Go.Proofs.Tryz.f48.body.getD .skip
def Zqc:Tb:=[(6,⟨[1,3],[]⟩),(16,⟨[1,3,4,5],[]⟩),(26,⟨[1,6],[]⟩)]
inductive Zjh where | l6 (i:Int) | l16 (x:ByteArray) (x1:Int) (x2:List Int) (i:Int) (k:Int) | l26 (i:Int)
def ZbK (p:El Zc):Zjh→JT Zjh (Int) |.l6 i=>.br (decide (i < (Int.ofNat (List.length p.1)))) (.br ((decide ((0:Int)≤i))&&(decide (i < (Int.ofNat (List.length p.1))))) (.br (Zb4 (List.getD p.1 (Int.toNat i) (dflt Zx)).1) (.br (! (Zdr (List.getD p.1 (Int.toNat i) (dflt Zx)).1)) (.leaf (3:Int)) (.jmp (.l16 (List.getD p.1 (Int.toNat i) (dflt Zx)).1 (List.getD p.1 (Int.toNat i) (dflt Zx)).2.1 (List.getD p.1 (Int.toNat i) (dflt Zx)).2.2 i (0:Int)))) (.no)) (.no)) (.jmp (.l26 (0:Int))) |.l16 x x1 x2 i k=>.br (decide (k < i)) (.br ((decide ((0:Int)≤k))&&(decide (k < (Int.ofNat (List.length p.1))))) (.br (eqB (List.getD p.1 (Int.toNat k) (dflt Zx)).1 x) (.leaf (6:Int)) (.jmp (.l16 x x1 x2 i (IntKind.i64.wrap (k+(1:Int)))))) (.no)) (.br (decide (x1 < (1:Int))) (.leaf (5:Int)) (.br (decide (x1 > (64:Int))) (.leaf (5:Int)) (.br (decide ((Int.ofNat (List.length x2)) > x1)) (.leaf (5:Int)) (.jmp (.l6 (IntKind.i64.wrap (i+(1:Int)))))))) |.l26 i=>.br (decide (i < (Int.ofNat (List.length p.2)))) (.br ((decide ((0:Int)≤i))&&(decide (i < (Int.ofNat (List.length p.2))))) (.br (ZkF p (List.getD p.2 (Int.toNat i) (dflt (.sl Za)))) (.br ((Zh0 p (List.getD p.2 (Int.toNat i) (dflt (.sl Za)))) !=(0:Int)) (.leaf (Zh0 p (List.getD p.2 (Int.toNat i) (dflt (.sl Za))))) (.jmp (.l26 (IntKind.i64.wrap (i+(1:Int)))))) (.no)) (.no)) (.leaf (0:Int))
def Zp1 (p:El Zc):JT Zjh (Int):=.br (decide ((Int.ofNat (List.length p.1)) > (64:Int))) (.leaf (10:Int)) (.br (decide ((Int.ofNat (List.length p.2)) > (64:Int))) (.leaf (10:Int)) (.jmp (.l6 (0:Int))))
def Zl6:Int→AV:=fun (r:Int)=>.d (.int .i64) r
def Zfe (p:El Zc):Zjh→Nat×St |.l6 i=>(6,⟨mkTm 81 [(1,.pt 2 0 0),(3,.d (.int .i64) i)],[(2,0,.box 27 [.d (.sl Zx) p.1,.d (.sl (.sl Za)) p.2] none)]⟩) |.l16 x x1 x2 i k=>(16,⟨mkTm 81 [(1,.pt 2 0 0),(3,.d (.int .i64) i),(4,.pt 5 0 0),(5,.d (.int .i64) k)],[(2,0,.box 27 [.d (.sl Zx) p.1,.d (.sl (.sl Za)) p.2] none),(5,0,.box 45 [.d .str x,.d (.int .i64) x1,.d (.sl (.int .i64)) x2] none)]⟩) |.l26 i=>(26,⟨mkTm 81 [(1,.pt 2 0 0),(6,.d (.int .i64) i)],[(2,0,.box 27 [.d (.sl Zx) p.1,.d (.sl (.sl Za)) p.2] none)]⟩)
theorem ZF7 (p:El Zc) (L:Lt):entryA Go.Proofs.Tryz.prog (clOf Zrg) Zqc Go.Proofs.Tryz.f48 Zme L (toForms Zfx (p,()))=(Zp1 p).run (fun v=>some (Zl6 v,tps (toForms Zfx (p,())))) fun j=>L (Zfe p j).1 (Zfe p j).2:=by kernel_rfl
theorem ZE9 (p:El Zc):∀(L:Lt) (j:Zjh),procOf (procsF Go.Proofs.Tryz.prog (clOf Zrg) Zqc Go.Proofs.Tryz.f48 Zme (toForms Zfx (p,()))) (Zfe p j).1 L (Zfe p j).2=(ZbK p j).run (fun v=>some (Zl6 v,tps (toForms Zfx (p,())))) fun j=>L (Zfe p j).1 (Zfe p j).2 | L,.l6 i=>by kernel_rfl | L,.l16 x x1 x2 i k=>by kernel_rfl | L,.l26 i=>by kernel_rfl
end
end Go.Ev
end

section
open Go
namespace Go.Ev
def ZcN (p:El Zc):Int:=checkC p
def Zb5 (p:El Zc):Bool:=smallProg p
theorem ZIV (p:El Zc) (hk:Zb5 p=true):Goes (ZbK p) (Zp1 p) (ZcN p):=by
 have hth:∀t∈p.2,smallThread t=true:=by
  unfold Zb5 smallProg at hk
  simp only[Bool.and_eq_true,List.all_eq_true] at hk
  exact hk.2
 have hsy:∀s∈p.1,smallText s.1=true:=by
  unfold Zb5 smallProg at hk
  simp only[Bool.and_eq_true,List.all_eq_true] at hk
  exact hk.1
 obtain ⟨sy,th⟩:=p
 dsimp only at hth hsy
 have ths:th.length≤64→∀k,k≤th.length→Goes (ZbK (sy,th)) (.jmp (.l26 (k:Int))) (thsC (sy,th) (th.drop k)):=by
  intro hn
  refine down ?_ fun k hk ih=>?_
  ·rw[Zi]
   simp only[ZbK,Ze,Zw (Nat.lt_irrefl _),ZT,List.drop_length]
   simp[thsC]
  ·have hkt:ZkF (sy,th) th[k]=true:=hth _ (List.getElem_mem hk)
   rw[Zi]
   simp only[ZbK,Ze,ZQ hk,nng,Bool.and_self,if_true,Int.toNat_natCast,ZG hk,Zs (k:=k) (by omega),hkt]
   rw[ZN hk]
   unfold thsC
   show (if (threadC (sy,th) th[k] !=0)=true then _ else _)
   by_cases h:threadC (sy,th) th[k]=0
   ·rw[if_neg (by simp[h]),if_neg (by simp[h])];exact ih
   ·rw[if_pos (by simp[h]),if_pos h];exact .leaf
 have main:sy.length≤64→th.length≤64→∀k,k≤sy.length→Goes (ZbK (sy,th)) (.jmp (.l6 (k:Int))) (symsC (thsC (sy,th) th) ((sy.take k).map fun s=>s.1) (sy.drop k)):=by
  intro hn hm
  refine down ?_ fun k hk ih=>?_
  ·rw[Zi,List.drop_length]
   unfold symsC
   simp only[ZbK,Ze,Zw (Nat.lt_irrefl _)]
   rw[if_neg (by decide)]
   simpa using ths hm 0 (Nat.zero_le _)
  ·have hkn:Zb4 sy[k].1=true:=hsy _ (List.getElem_mem hk)
   have htk:(sy.take (k+1)).map (fun s=>s.1)=(sy.take k).map (fun s=>s.1)++[sy[k].1]:=by
    rw[List.take_add_one,List.getElem?_eq_getElem hk,List.map_append];rfl
   rw[htk] at ih
   rw[Zi]
   simp only[ZbK,Ze,ZQ hk,nng,Bool.and_self,if_true,Int.toNat_natCast,ZG hk,hkn]
   rw[ZN hk]
   unfold symsC
   generalize sy[k]=s at ih hkn
   obtain ⟨nm,size,init⟩:=s
   dsimp only at ih hkn ⊢
   change Int at size
   by_cases h1:nameRight nm=false
   ·rw[if_pos h1,if_pos (by show (! nameRight nm)=true;rw[h1];rfl)];exact .leaf
   rw[if_neg h1,if_neg (by show ¬(! nameRight nm)=true;simpa using h1)]
   have inner:∀j,j≤k→Goes (ZbK (sy,th)) (.jmp (.l16 nm size init (k:Int) (j:Int))) (if (((sy.take k).drop j).map (fun s=>s.1)).contains nm=true then 6 else if size < (1:Int)∨(64:Int) < size∨size < (List.length init:Int) then 5 else symsC (thsC (sy,th) th) ((sy.take k).map (fun s=>s.1)++[nm]) (sy.drop (k+1))):=by
    refine down ?_ fun j hj ihj=>?_
    ·rw[Zi]
     have:(sy.take k).drop k=[]:=List.drop_eq_nil_of_le (by rw[List.length_take];omega)
     rw[this]
     simp only[ZbK,Ze,Zs (k:=k) (by omega)]
     rw[if_neg (by simp)]
     simp only[List.map_nil,List.contains_nil,Bool.false_eq_true,if_false]
     by_cases h3:size < 1
     ·rw[if_pos (decide_eq_true h3),if_pos (.inl h3)];exact .leaf
     rw[if_neg (by simpa using h3)]
     by_cases h4:64 < size
     ·rw[if_pos (decide_eq_true h4),if_pos (.inr (.inl h4))];exact .leaf
     rw[if_neg (by simpa using h4)]
     by_cases h5:size < (List.length init:Int)
     ·rw[if_pos (show decide (Int.ofNat (List.length init) > size)=true from decide_eq_true h5),if_pos (.inr (.inr h5))];exact .leaf
     rw[if_neg (show ¬decide (Int.ofNat (List.length init) > size)=true by simpa using h5),if_neg (by rintro (h | h | h) <;> contradiction)]
     exact ih
    ·have hjs:j < sy.length:=by omega
     have hjt:j < (sy.take k).length:=by rw[List.length_take];omega
     rw[Zi,ZN hjt,List.map_cons,List.contains_cons,List.getElem_take]
     simp only[ZbK,Ze,ZQ hjs,nng,Bool.and_self,if_true,Int.toNat_natCast,ZG hjs,Zs (k:=j) (by omega),Zsx]
     rw[if_pos (by simp;omega)]
     by_cases h2:sy[j].1=nm
     ·rw[if_pos h2,if_pos (by rw[h2];simp)];exact .leaf
     ·rw[if_neg h2,beq_false_of_ne (Ne.symm h2),Bool.false_or];exact ihj
   simpa using inner 0 (Nat.zero_le _)
 unfold Zp1 ZcN checkC
 simp only[Ze]
 by_cases h:64 < sy.length
 ·rw[if_pos (by simp;omega),if_pos (.inl h)];exact .leaf
 rw[if_neg (by simp;omega)]
 by_cases h2:64 < th.length
 ·rw[if_pos (by simp;omega),if_pos (.inr h2)];exact .leaf
 rw[if_neg (by simp;omega),if_neg (by rintro (h | h) <;> contradiction)]
 exact main (by omega) (by omega) 0 (Nat.zero_le _)
end Go.Ev
end

section
open Go Go.Ev
namespace Go.Ev
noncomputable section
noncomputable def Zq3:Run:=entG Zfx Zl6 (fun a=>Zb5 a.1) (fun a=>ZcN a.1)
theorem ZvH:EntOK Go.Proofs.Tryz.prog 48 Zq3:=ZJ (tb:=Zqc) (c:=Zme) ZGf (by kernel_rfl) (by kernel_rfl) (by kernel_rfl) (fun a=>by kernel_rfl) fun ⟨p,_⟩ hk=>Zn (c:=Zme) (K:=fun v=>(Zl6 v,tps (toForms Zfx (p,())))) (S:=Zfe p) (by kernel_rfl) (ZF7 p) (ZE9 p) (ZIV p hk)
end
end Go.Ev
end

section
open Go Go.Ev
namespace Go.Ev
noncomputable section
def Zfz:Sig:=[(true,Za)]
noncomputable def Zsq:Tbl:=[(100,Zck),(105,ZhF)]
theorem ZEd:∀p∈Zsq,EntOK Go.Proofs.Tryz.prog p.1 p.2:=Zg Zcx (Zg Zi6 (Zu))
noncomputable def ZmS:Code:=Go.Proofs.Tryz.f72.body.getD .skip
def Zp4:Tb:=[]
def ZxL (i:El Za):Empty→JT Empty ((El Zh)×Bool):=fun j=>nomatch j
def ZvD (i:El Za):JT Empty ((El Zh)×Bool):=.br (ZB i) (.br ((ZC i) !=(0:Int)) (.leaf (((0:Int),((0:Int),((0:Int),(0:Int)))),false)) (.br (decide (i.1 > (9:Int))) (.leaf (((0:Int),((0:Int),((0:Int),(0:Int)))),false)) (.br (ZE i.2.2.2.2.1) (.leaf (i.2.2.2.2.1,true)) (.br (ZE i.2.2.2.1) (.br (i.1 !=(1:Int)) (.leaf (i.2.2.2.1,true)) (.leaf (((0:Int),((0:Int),((0:Int),(0:Int)))),false))) (.leaf (((0:Int),((0:Int),((0:Int),(0:Int)))),false)))))) (.no)
def Zdt (i:El Za):(El Zh)×Bool:=bif (ZB i) then bif ((ZC i) !=(0:Int)) then (((0:Int),((0:Int),((0:Int),(0:Int)))),false) else bif (decide (i.1 > (9:Int))) then (((0:Int),((0:Int),((0:Int),(0:Int)))),false) else bif (ZE i.2.2.2.2.1) then (i.2.2.2.2.1,true) else bif (ZE i.2.2.2.1) then bif (i.1 !=(1:Int)) then (i.2.2.2.1,true) else (((0:Int),((0:Int),((0:Int),(0:Int)))),false) else (((0:Int),((0:Int),((0:Int),(0:Int)))),false) else (((0:Int),((0:Int),((0:Int),(0:Int)))),false)
def Zjp (i:El Za):Bool:=bif (ZB i) then bif ((ZC i) !=(0:Int)) then true else bif (decide (i.1 > (9:Int))) then true else bif (ZE i.2.2.2.2.1) then true else bif (ZE i.2.2.2.1) then bif (i.1 !=(1:Int)) then true else true else true else false
theorem ZGX (i:El Za) (hk:Zjp i=true):Goes (ZxL i) (ZvD i) (Zdt i):=Goes.brk hk (fun hk=>Goes.brk hk (fun hk=>Goes.leaf) (fun hk=>Goes.brk hk (fun hk=>Goes.leaf) (fun hk=>Goes.brk hk (fun hk=>Goes.leaf) (fun hk=>Goes.brk hk (fun hk=>Goes.brk hk (fun hk=>Goes.leaf) (fun hk=>Goes.leaf)) (fun hk=>Goes.leaf))))) (fun hk=>Goes.nok hk)
def Zmy:(El Zh)×Bool→AV:=fun (r:(El Zh)×Bool)=>.tu [.ag [.d (.int .i64) r.1.1,.d (.int .i64) r.1.2.1,.d (.int .i64) r.1.2.2.1,.d (.int .i64) r.1.2.2.2],.d .bool r.2]
def ZeZ (i:El Za):Empty→Nat×St:=fun j=>nomatch j
theorem ZDN (i:El Za) (L:Lt):entryA Go.Proofs.Tryz.prog (clOf Zsq) Zp4 Go.Proofs.Tryz.f72 ZmS L (toForms Zfz (i,()))=(ZvD i).run (fun v=>some (Zmy v,tps (toForms Zfz (i,())))) fun j=>L (ZeZ i j).1 (ZeZ i j).2:=by kernel_rfl
theorem ZF4 (i:El Za):∀(L:Lt) (j:Empty),procOf (procsF Go.Proofs.Tryz.prog (clOf Zsq) Zp4 Go.Proofs.Tryz.f72 ZmS (toForms Zfz (i,()))) (ZeZ i j).1 L (ZeZ i j).2=(ZxL i j).run (fun v=>some (Zmy v,tps (toForms Zfz (i,())))) fun j=>L (ZeZ i j).1 (ZeZ i j).2:=fun L j=>nomatch j
noncomputable def ZxW:Run:=entG Zfz Zmy (fun a=>Zjp a.1) (fun a=>Zdt a.1)
theorem ZF2:EntOK Go.Proofs.Tryz.prog 72 ZxW:=ZJ (tb:=Zp4) (c:=ZmS) ZEd (by kernel_rfl) (by kernel_rfl) (by kernel_rfl) (fun a=>by kernel_rfl) fun ⟨i,_⟩ hk=>Zn (c:=ZmS) (K:=fun v=>(Zmy v,tps (toForms Zfz (i,())))) (S:=ZeZ i) (by kernel_rfl) (ZDN i) (ZF4 i) (ZGX i hk)
end
end Go.Ev
end

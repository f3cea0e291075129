/- Part of the proof of: No more points are chosen than there are stores, nor than there are loads, in open delays: for every input the law answers true. -/
import Derived.Shelf.Slices.In.SortNone
import Derived.Shelf.Sort.Plain
import Derived.Test.YtmiogacaacbdjaaGreatDoorCon0
set_option maxRecDepth 100000
set_option linter.unusedSectionVars false
set_option linter.unusedVariables false
set_option linter.unusedSimpArgs false
section
open Go Go.Ev
namespace Go.Ev
noncomputable section
def ZfP:Sig:=[(true,Za)]
noncomputable def Zsn:Tbl:=[(74,Zce),(94,ZmR)]
theorem ZDy:∀p∈Zsn,EntOK Go.Proofs.Tryz.prog p.1 p.2:=Zg Zcs (Zg ZoL (Zu))
noncomputable def ZlV:Code:=Go.Proofs.Tryz.f72.body.getD .skip
def Zo8:Tb:=[]
def Zxo (i:El Za):Empty→JT Empty (Bool×Bool):=fun j=>nomatch j
def Zwc (i:El Za):JT Empty (Bool×Bool):=.br (ZB i) (.br ((ZD i) !=(0:Int)) (.leaf (false,false)) (.br (i.1 !=(10:Int)) (.leaf ((i.1 !=(14:Int)),(ZaF i.1))) (.leaf (false,(ZaF i.1))))) (.no)
def Zdg (i:El Za):Bool×Bool:=bif (ZB i) then bif ((ZD i) !=(0:Int)) then (false,false) else bif (i.1 !=(10:Int)) then ((i.1 !=(14:Int)),(ZaF i.1)) else (false,(ZaF i.1)) else (false,false)
def Zi0 (i:El Za):Bool:=bif (ZB i) then bif ((ZD i) !=(0:Int)) then true else bif (i.1 !=(10:Int)) then true else true else false
theorem ZHx (i:El Za) (hk:Zi0 i=true):Goes (Zxo i) (Zwc i) (Zdg i):=Goes.brk hk (fun hk=>Goes.brk hk (fun hk=>Goes.leaf) (fun hk=>Goes.brk hk (fun hk=>Goes.leaf) (fun hk=>Goes.leaf))) (fun hk=>Goes.nok hk)
def Zl0:Bool×Bool→AV:=fun (r:Bool×Bool)=>.tu [.d .bool r.1,.d .bool r.2]
def Ze6 (i:El Za):Empty→Nat×St:=fun j=>nomatch j
theorem ZEZ (i:El Za) (L:Lt):entryA Go.Proofs.Tryz.prog (clOf Zsn) Zo8 Go.Proofs.Tryz.f72 ZlV L (toForms ZfP (i,()))=(Zwc i).run (fun v=>some (Zl0 v,tps (toForms ZfP (i,())))) fun j=>L (Ze6 i j).1 (Ze6 i j).2:=by kernel_rfl
theorem ZFa (i:El Za):∀(L:Lt) (j:Empty),procOf (procsF Go.Proofs.Tryz.prog (clOf Zsn) Zo8 Go.Proofs.Tryz.f72 ZlV (toForms ZfP (i,()))) (Ze6 i j).1 L (Ze6 i j).2=(Zxo i j).run (fun v=>some (Zl0 v,tps (toForms ZfP (i,())))) fun j=>L (Ze6 i j).1 (Ze6 i j).2:=fun L j=>nomatch j
noncomputable def Zxr:Run:=entG ZfP Zl0 (fun a=>Zi0 a.1) (fun a=>Zdg a.1)
theorem ZEd:EntOK Go.Proofs.Tryz.prog 72 Zxr:=ZM (tb:=Zo8) (c:=ZlV) ZDy (by kernel_rfl) (by kernel_rfl) (by kernel_rfl) (fun a=>by kernel_rfl) fun ⟨i,_⟩ hk=>Zm (c:=ZlV) (K:=fun v=>(Zl0 v,tps (toForms ZfP (i,())))) (S:=Ze6 i) (by kernel_rfl) (ZEZ i) (ZFa i) (ZHx i hk)
end
end Go.Ev
end

section
open Go Go.Ev
namespace Go.Ev
noncomputable section
def Zg9:Sig:=[(true,(.sl Za)),(false,(.int .i64))]
noncomputable def ZtW:Tbl:=[(72,Zxr),(73,Zut)]
theorem ZGz:∀p∈ZtW,EntOK Go.Proofs.Tryz.prog p.1 p.2:=Zg ZEd (Zg ZwV (Zu))
noncomputable def ZoH:Code:=Go.Proofs.Tryz.f45.body.getD .skip
def ZrQ:Tb:=[(6,⟨[1,2,5,7],[]⟩)]
inductive ZkI where | l6 (jumps:Bool) (is:List Bool)
def Zoy (t:List (El Za)) (i:Int):ZkI→JT ZkI (List Bool) |.l6 jumps is=>.br jumps (.br ((decide ((0:Int)≤i))&&(decide (i < (Int.ofNat (List.length t))))) (.br (Ze1 t (List.getD t (Int.toNat i) (dflt Za)).2.2.2.2.2.1) (.br (decide ((ZcW t (List.getD t (Int.toNat i) (dflt Za)).2.2.2.2.2.1)≥(0:Int))) (.br ((decide ((0:Int)≤(ZcW t (List.getD t (Int.toNat i) (dflt Za)).2.2.2.2.2.1)))&&(decide ((ZcW t (List.getD t (Int.toNat i) (dflt Za)).2.2.2.2.2.1) < (Int.ofNat (List.length is))))) (.leaf (List.set is (Int.toNat (ZcW t (List.getD t (Int.toNat i) (dflt Za)).2.2.2.2.2.1)) true)) (.no)) (.leaf is)) (.no)) (.no)) (.leaf is)
def Zq8 (t:List (El Za)) (i:Int):JT ZkI (List Bool):=.br ((((Int.ofNat (List.length t))==(Int.ofNat (List.length t)))&&(decide ((0:Int)≤(Int.ofNat (List.length t)))))&&(decide (((Int.ofNat (List.length t))*(1:Int))≤(limit:Int)))) (.br (decide (i < (0:Int))) (.leaf (List.replicate (List.length t) false)) (.br (decide (i≥(Int.ofNat (List.length t)))) (.leaf (List.replicate (List.length t) false)) (.br ((decide ((0:Int)≤i))&&(decide (i < (Int.ofNat (List.length t))))) (.br (Zi0 (List.getD t (Int.toNat i) (dflt Za))) (.br (Zdg (List.getD t (Int.toNat i) (dflt Za))).1 (.br (decide ((IntKind.i64.wrap (i+(1:Int))) < (Int.ofNat (List.length t)))) (.br ((decide ((0:Int)≤(IntKind.i64.wrap (i+(1:Int)))))&&(decide ((IntKind.i64.wrap (i+(1:Int))) < (Int.ofNat (List.length (List.replicate (List.length t) false)))))) (.jmp (.l6 (Zdg (List.getD t (Int.toNat i) (dflt Za))).2 (List.set (List.replicate (List.length t) false) (Int.toNat (IntKind.i64.wrap (i+(1:Int)))) true))) (.no)) (.jmp (.l6 (Zdg (List.getD t (Int.toNat i) (dflt Za))).2 (List.replicate (List.length t) false)))) (.jmp (.l6 (Zdg (List.getD t (Int.toNat i) (dflt Za))).2 (List.replicate (List.length t) false)))) (.no)) (.no)))) (.no)
def ZoD:List Bool→AV:=fun (r:List Bool)=>.rw 4 .bool r
def Zgh (t:List (El Za)) (i:Int):ZkI→Nat×St |.l6 jumps is=>(6,⟨mkTm 60 [(1,.d (.int .i64) i),(2,.pt 3 0 0),(5,.own 6 0 none),(7,.d .bool jumps)],[(3,0,.box 33 [.d (.sl Za) t] none),(6,0,.row 4 .bool is false)]⟩)
theorem ZGp (t:List (El Za)) (i:Int) (L:Lt):entryA Go.Proofs.Tryz.prog (clOf ZtW) ZrQ Go.Proofs.Tryz.f45 ZoH L (toForms Zg9 (t,i,()))=(Zq8 t i).run (fun v=>some (ZoD v,tps (toForms Zg9 (t,i,())))) fun j=>L (Zgh t i j).1 (Zgh t i j).2:=by kernel_rfl
theorem ZIj (t:List (El Za)) (i:Int):∀(L:Lt) (j:ZkI),procOf (procsF Go.Proofs.Tryz.prog (clOf ZtW) ZrQ Go.Proofs.Tryz.f45 ZoH (toForms Zg9 (t,i,()))) (Zgh t i j).1 L (Zgh t i j).2=(Zoy t i j).run (fun v=>some (ZoD v,tps (toForms Zg9 (t,i,())))) fun j=>L (Zgh t i j).1 (Zgh t i j).2 | L,.l6 jumps is=>by kernel_rfl
end
end Go.Ev
end

section
open Go
namespace Go.Ev
theorem ZIK {i:El Za} (h:smallText i.2.2.2.2.2.1=true):Zi0 i=true:=by
 have h1:ZB i=true:=h
 unfold Zi0
 simp only[h1,cond_true,Bool.cond_self]
theorem ZLR {i:El Za} (h:smallText i.2.2.2.2.2.1=true):Zdg i=ZaJ i:=by
 have h0:ZP i=true:=h
 have h1:ZB i=true:=h
 unfold Zdg ZaJ ZD ZaF
 simp only[h0,h1,cond_true]
 cases h10:((show Int from i.1)==10) with
 | true=>simp only[cond_true,bne,h10,Bool.not_true,cond_false]
 | false=>simp only[cond_true,bne,h10,Bool.not_false,cond_false]
end Go.Ev
end

section
open Go
namespace Go.Ev
def wordAt (m:List (Int×Int)) (k:Int):Int:=Option.getD (mget (kt:=(.int .i64)) k m) (0:Int)
def bitE (w:Int) (i:Int):Bool:=(bitAnd IntKind.u64 (Int.fdiv w (2 ^ (min (Int.toNat (IntKind.u64.wrap i)) (IntKind.u64).bits))) (1:Int))==(1:Int)
def numE (k i:Int):Int:=IntKind.i64.wrap ((IntKind.i64.wrap (k*(64:Int)))+i)
def wordList (m:List (Int×Int)) (k:Int) (i n:Nat):List Int:=((List.range' i n).filter fun i=>bitE (wordAt m k) (i:Nat)).map fun i=>numE k (i:Nat)
def listAt (m:List (Int×Int)) (places:List Int):List Int:=places.flatMap fun k=>wordList m k 0 64
def listS (s:Int×List (Int×Int)):List Int:=listAt s.2 ((s.2.map Prod.fst).mergeSort fun x y=>decide (x≤y))
theorem Zub {i:Nat} (h:i < 64):IntKind.u64.wrap (i:Int)=(i:Int):=by
 unfold IntKind.wrap
 simp[IntKind.signed,IntKind.bits]
 omega
theorem ZyU (m:List (Int×Int)) (k:Int) (i n:Nat):(wordList m k i n).length≤n:=by
 unfold wordList
 rw[List.length_map]
 exact Nat.le_trans (List.length_filter_le _ _) (by simp)
end Go.Ev
namespace Go.Ev
def placeOf (i:Int):Int:=IntKind.i64.wrap (Int.tdiv i (64:Int))
def hasS (s:Int×List (Int×Int)) (i:Int):Bool:=decide (i≥(0:Int))&&(decide (i < s.1)&&bitE (wordAt s.2 (placeOf i)) (Int.tmod i (64:Int)))
def withBit (w i:Int):Int:=bitOr IntKind.u64 w (IntKind.u64.wrap ((1:Int)*(2 ^ (min (Int.toNat (IntKind.u64.wrap i)) (IntKind.u64).bits))))
def putS (s:Int×List (Int×Int)) (i:Int):Bool×Int×List (Int×Int):=
 if i < 0∨s.1≤i∨hasS s i=true then (false,s) else (true,s.1,mput (kt:=(.int .i64)) (placeOf i) (withBit (wordAt s.2 (placeOf i)) (Int.tmod i (64:Int))) s.2)
theorem ZxO (n:Int):decide (IntKind.u64.wrap n < (0:Int))=false:=by
 apply decide_eq_false
 unfold IntKind.wrap
 simp only[IntKind.signed,IntKind.bits,Bool.false_and,Bool.false_eq_true,if_false]
 have:(0:Int)≤n % 18446744073709551616:=Int.emod_nonneg _ (by decide)
 simp at*
 omega
end Go.Ev
end

section
open Go
namespace Go.Ev
theorem Zyu {n:Nat} (h:n < 2 ^ 64):IntKind.u64.wrap (n:Int)=(n:Int):=by
 unfold IntKind.wrap
 simp only[IntKind.signed,IntKind.bits,Bool.false_and,Bool.false_eq_true,if_false]
 exact Int.emod_eq_of_lt (by omega) (by exact_mod_cast h)
theorem ofIntU {n:Nat} :BitVec.ofInt 64 (n:Int)=BitVec.ofNat 64 n:=BitVec.ofInt_natCast 64 n
theorem ZLQ {a b:Nat} (ha:a < 2 ^ 64) (hb:b < 2 ^ 64):bitAnd IntKind.u64 (a:Int) (b:Int)=((a &&& b:Nat):Int):=by
 unfold bitAnd
 show IntKind.u64.wrap (((BitVec.ofInt 64 (a:Int) &&& BitVec.ofInt 64 (b:Int)).toNat:Nat):Int)=_
 rw[ofIntU,ofIntU,BitVec.toNat_and,BitVec.toNat_ofNat,BitVec.toNat_ofNat,Nat.mod_eq_of_lt ha,Nat.mod_eq_of_lt hb]
 exact Zyu (Nat.lt_of_le_of_lt Nat.and_le_left ha)
theorem ZNq {a b:Nat} (ha:a < 2 ^ 64) (hb:b < 2 ^ 64):bitOr IntKind.u64 (a:Int) (b:Int)=((a ||| b:Nat):Int):=by
 unfold bitOr
 show IntKind.u64.wrap (((BitVec.ofInt 64 (a:Int) ||| BitVec.ofInt 64 (b:Int)).toNat:Nat):Int)=_
 rw[ofIntU,ofIntU,BitVec.toNat_or,BitVec.toNat_ofNat,BitVec.toNat_ofNat,Nat.mod_eq_of_lt ha,Nat.mod_eq_of_lt hb]
 exact Zyu (Nat.or_lt_two_pow ha hb)
theorem ZzC (j:Nat):(2:Int) ^ j=((2 ^ j:Nat):Int):=by simp
theorem ZME {w j:Nat} (hw:w < 2 ^ 64) (hj:j < 64):bitE (w:Int) (j:Int)=w.testBit j:=by
 unfold bitE
 rw[Zub hj,Int.toNat_natCast,show min j (IntKind.u64).bits=j from Nat.min_eq_left (by show j≤64;omega),ZzC,Int.fdiv_eq_ediv_of_nonneg _ (Int.natCast_nonneg _),←Int.natCast_ediv]
 rw[show (1:Int)=((1:Nat):Int) from rfl,ZLQ (Nat.lt_of_le_of_lt (Nat.div_le_self _ _) hw) (by decide),Nat.and_one_is_mod,Nat.testBit_eq_decide_div_mod_eq]
 by_cases h:w / 2 ^ j % 2=1
 ·rw[h];simp
 ·have:w / 2 ^ j % 2=0:=by omega
  rw[this];simp
theorem ZLo {w j:Nat} (hw:w < 2 ^ 64) (hj:j < 64):withBit (w:Int) (j:Int)=((w ||| 2 ^ j:Nat):Int):=by
 unfold withBit
 have hp:2 ^ j < 2 ^ 64:=Nat.pow_lt_pow_right (by decide) hj
 rw[Zub hj,Int.toNat_natCast,show min j (IntKind.u64).bits=j from Nat.min_eq_left (by show j≤64;omega),ZzC,Int.one_mul,Zyu hp,ZNq hw hp]
theorem ZtA (k v:Int):∀m:List (Int×Int),mget (kt:=.int .i64) k (mput (kt:=.int .i64) k v m)=some v
 | []=>by simp[mput,mget,keyEq]
 | (x,u) :: r=>by
  by_cases h:k=x
  ·subst h;simp[mput,mget,keyEq]
  ·have hb:keyEq (.int .i64) k x=false:=by show (k==x)=false;simpa using h
   simp only[mput,hb,cond_false,mget]
   exact ZtA k v r
theorem Zqy {k k':Int} (v:Int) (h:k'≠k):∀m:List (Int×Int),mget (kt:=.int .i64) k' (mput (kt:=.int .i64) k v m)=mget (kt:=.int .i64) k' m
 | []=>by
  have hb:keyEq (.int .i64) k' k=false:=by show (k'==k)=false;simpa using h
  simp[mput,mget,hb]
 | (x,u) :: r=>by
  by_cases hx:k=x
  ·subst hx
   have hb:keyEq (.int .i64) k' k=false:=by show (k'==k)=false;simpa using h
   have hb2:keyEq (.int .i64) k k=true:=by show (k==k)=true;simp
   simp only[mput,hb2,cond_true,mget,hb,cond_false]
  ·have hb:keyEq (.int .i64) k x=false:=by show (k==x)=false;simpa using hx
   simp only[mput,hb,cond_false,mget,Zqy v h r]
theorem Zq3 {k v:Int} :∀ {m:List (Int×Int)},mget (kt:=.int .i64) k m=some v→(k,v)∈m
 | [],h=>by cases h
 | (x,u) :: r,h=>by
  by_cases hx:k=x
  ·subst hx
   have hb2:keyEq (.int .i64) k k=true:=by show (k==k)=true;simp
   simp only[mget,hb2,cond_true,Option.some.injEq] at h
   subst h
   simp
  ·have hb:keyEq (.int .i64) k x=false:=by show (k==x)=false;simpa using hx
   simp only[mget,hb,cond_false] at h
   exact List.mem_cons_of_mem _ (Zq3 h)
theorem ZKC {k v:Int} {p:Int×Int} :∀ {m:List (Int×Int)},p∈mput (kt:=.int .i64) k v m→p=(k,v)∨p∈m
 | [],h=>by simp[mput] at h;exact .inl h
 | (x,u) :: r,h=>by
  by_cases hx:k=x
  ·subst hx
   have hb2:keyEq (.int .i64) k k=true:=by show (k==k)=true;simp
   simp only[mput,hb2,cond_true] at h
   rcases List.mem_cons.1 h with h | h
   ·exact .inl h
   ·exact .inr (List.mem_cons_of_mem _ h)
  ·have hb:keyEq (.int .i64) k x=false:=by show (k==x)=false;simpa using hx
   simp only[mput,hb,cond_false] at h
   rcases List.mem_cons.1 h with h | h
   ·exact .inr (by rw[h];simp)
   ·exact (ZKC h).imp id (List.mem_cons_of_mem _)
theorem Zvg {k v:Int} :∀ {m:List (Int×Int)},(mput (kt:=.int .i64) k v m).map Prod.fst=if k∈m.map Prod.fst then m.map Prod.fst else m.map Prod.fst++[k]
 | []=>by simp[mput]
 | (x,u) :: r=>by
  by_cases hx:k=x
  ·subst hx
   have hb2:keyEq (.int .i64) k k=true:=by show (k==k)=true;simp
   simp only[mput,hb2,cond_true]
   simp
  ·have hb:keyEq (.int .i64) k x=false:=by show (k==x)=false;simpa using hx
   simp only[mput,hb,cond_false,List.map_cons,List.mem_cons,hx,false_or]
   rw[@Zvg k v r]
   by_cases h:k∈r.map Prod.fst
   ·rw[if_pos h,if_pos h]
   ·rw[if_neg h,if_neg h];rfl
theorem ZBQ {k v:Int} {m:List (Int×Int)} (h:(m.map Prod.fst).Nodup):((mput (kt:=.int .i64) k v m).map Prod.fst).Nodup:=by
 rw[Zvg]
 split
 ·exact h
 ·rename_i hk
  rw[List.nodup_append]
  exact ⟨h,by simp,fun a ha b hb e=>by simp at hb;subst hb;subst e;exact hk ha⟩
theorem ZCe:∀ {l:List Int} {a b:Int},l.Pairwise (· < ·)→(∀x∈l,a≤x∧x < b)→a≤b→(l.length:Int)≤b - a
 | [],a,b,_,_,h=>by simp;omega
 | y :: l,a,b,hp,hb,h=>by
  rw[List.pairwise_cons] at hp
  have hy:=hb y (by simp)
  have:=ZCe (l:=l) (a:=y+1) (b:=b) hp.2 (fun x hx=>⟨hp.1 x hx,(hb x (List.mem_cons_of_mem _ hx)).2⟩) (by omega)
  simp
  omega
structure SetOK (s:Int×List (Int×Int)) (n:Nat) (M:Nat→Bool):Prop where
 size:s.1=n
 nodup:(s.2.map Prod.fst).Nodup
 words:∀p∈s.2,∃k w:Nat,p=((k:Int),(w:Int))∧k*64 < n∧w < 2 ^ 64
 bits:∀k j:Nat,j < 64→(wordAt s.2 (k:Int)).toNat.testBit j=M (k*64+j)
 lt:∀i,M i=true→i < n
theorem SetOK.new (n:Nat):SetOK ((n:Int),[]) n fun _=>false:=⟨rfl,List.nodup_nil,fun p hp=>by simp at hp,fun k j _=>by simp[wordAt,mget],fun i h=>by cases h⟩
variable {s:Int×List (Int×Int)} {n:Nat} {M:Nat→Bool}
theorem SetOK.word (h:SetOK s n M) (k:Nat):∃w:Nat,wordAt s.2 (k:Int)=(w:Int)∧w < 2 ^ 64:=by
 unfold wordAt
 cases hg:mget (kt:=.int .i64) (k:Int) s.2 with
 | none=>exact ⟨0,rfl,by decide⟩
 | some v=>
  obtain ⟨k',w,e,_,hw⟩:=h.words _ (Zq3 hg)
  simp only[Prod.mk.injEq] at e
  exact ⟨w,e.2,hw⟩
theorem Zzb {i:Nat} (hi:i < 4611686018427387904):placeOf (i:Int)=((i / 64:Nat):Int):=by
 unfold placeOf
 rw[show Int.tdiv (i:Int) 64=((i / 64:Nat):Int) from rfl,wrap_i64 (by omega) (by omega)]
theorem SetOK.has (h:SetOK s n M) (hn:n < 4611686018427387904) (i:Int):hasS s i=(decide (0≤i)&&M i.toNat):=by
 unfold hasS
 rw[h.size]
 by_cases h0:0≤i
 ·obtain ⟨j,rfl⟩:=Int.eq_ofNat_of_zero_le h0
  by_cases h1:j < n
  ·rw[decide_eq_true (show (j:Int)≥0 from h0),decide_eq_true (show (j:Int) < (n:Int) by omega),Bool.true_and,Bool.true_and,Bool.true_and,Zzb (by omega)]
   obtain ⟨w,hw,hlt⟩:=h.word (j / 64)
   have hb:=h.bits (j / 64) (j % 64) (Nat.mod_lt _ (by decide))
   rw[hw,show Int.tmod (j:Int) 64=((j % 64:Nat):Int) from rfl,ZME hlt (Nat.mod_lt _ (by decide))]
   rw[hw,Int.toNat_natCast] at hb
   rw[hb,Int.toNat_natCast,Nat.div_add_mod' j 64]
  ·rw[decide_eq_false (show ¬(j:Int) < (n:Int) by omega),Bool.false_and,Bool.and_false]
   have:M (j:Int).toNat=false:=by
    rw[Int.toNat_natCast]
    cases hm:M j with
    | true=>exact absurd (h.lt j hm) h1
    | false=>rfl
   rw[this,Bool.and_false]
 ·rw[decide_eq_false (show ¬i≥0 from h0),Bool.false_and,Bool.false_and]
theorem SetOK.put (h:SetOK s n M) (hn:n < 4611686018427387904) {i:Nat} (hi:i < n) (hM:M i=false):
  (putS s i).1=true∧SetOK (putS s i).2 n fun j=>M j || (j==i):=by
 have hno:¬((i:Int) < 0∨s.1≤(i:Int)∨hasS s (i:Int)=true):=by
  rw[h.has hn,h.size,Int.toNat_natCast,hM]
  simp
  omega
 unfold putS
 rw[if_neg hno,Zzb (by omega),show Int.tmod (i:Int) 64=((i % 64:Nat):Int) from rfl]
 refine ⟨rfl,?_⟩
 obtain ⟨w,hw,hlt⟩:=h.word (i / 64)
 have hj:i % 64 < 64:=Nat.mod_lt _ (by decide)
 have hp:2 ^ (i % 64) < 2 ^ 64:=Nat.pow_lt_pow_right (by decide) hj
 rw[hw,ZLo hlt hj]
 have hw2:w ||| 2 ^ (i % 64) < 2 ^ 64:=Nat.or_lt_two_pow hlt hp
 refine ⟨h.size,ZBQ h.nodup,fun p hp=>?_,fun k j hj2=>?_,fun k hk=>?_⟩
 ·rcases ZKC hp with rfl | hp
  ·exact ⟨i / 64,_,rfl,by omega,hw2⟩
  ·exact h.words p hp
 ·unfold wordAt
  by_cases hk:k=i / 64
  ·subst hk
   simp only
   rw[ZtA,Option.getD_some,Int.toNat_natCast,Nat.testBit_or,Nat.testBit_two_pow]
   have hb:=h.bits (i / 64) j hj2
   rw[hw,Int.toNat_natCast] at hb
   rw[hb]
   congr 1
   rw[Bool.eq_iff_iff]
   simp
   omega
  ·simp only
   rw[Zqy _ (by omega)]
   have hb:=h.bits k j hj2
   unfold wordAt at hb
   rw[hb]
   have:(k*64+j==i)=false:=by simp;omega
   rw[this,Bool.or_false]
 ·simp only[Bool.or_eq_true,beq_iff_eq] at hk
  rcases hk with hk | hk
  ·exact h.lt k hk
  ·omega
theorem SetOK.put_no (h:SetOK s n M) (hn:n < 4611686018427387904) {i:Int} (hi:¬(0≤i∧i < n∧M i.toNat=false)):putS s i=(false,s):=by
 unfold putS
 rw[if_pos]
 rw[h.has hn,h.size]
 by_cases h0:i < 0
 ·exact .inl h0
 ·by_cases h1:(n:Int)≤i
  ·exact .inr (.inl h1)
  ·refine .inr (.inr ?_)
   have:¬M i.toNat=false:=fun hf=>hi ⟨by omega,by omega,hf⟩
   rw[Bool.not_eq_false] at this
   rw[this,decide_eq_true (by omega)];rfl
theorem ZnM:∀ {l m:List Int},l.Pairwise (· < ·)→m.Pairwise (· < ·)→(∀x,x∈l↔x∈m)→l=m
 | [],[],_,_,_=>rfl
 | [],b :: m,_,_,h=>by have:=(h b).2 (by simp);simp at this
 | a :: l,[],_,_,h=>by have:=(h a).1 (by simp);simp at this
 | a :: l,b :: m,hl,hm,h=>by
  rw[List.pairwise_cons] at hl hm
  have hab:a=b:=by
   have h1:=(h a).1 (by simp)
   have h2:=(h b).2 (by simp)
   rcases List.mem_cons.1 h1 with h1 | h1
   ·exact h1
   ·rcases List.mem_cons.1 h2 with h2 | h2
    ·exact h2.symm
    ·have:=hm.1 a h1;have:=hl.1 b h2;omega
  subst hab
  rw[ZnM hl.2 hm.2 fun x=>⟨fun hx=>?_,fun hx=>?_⟩]
  ·have:=hl.1 x hx
   rcases List.mem_cons.1 ((h x).1 (List.mem_cons_of_mem _ hx)) with e | e
   ·omega
   ·exact e
  ·have:=hm.1 x hx
   rcases List.mem_cons.1 ((h x).2 (List.mem_cons_of_mem _ hx)) with e | e
   ·omega
   ·exact e
def listOf (n:Nat) (M:Nat→Bool):List Int:=((List.range n).filter M).map Int.ofNat
theorem Zcm {x:Int} :x∈listOf n M↔∃i:Nat,i < n∧M i=true∧x=(i:Int):=by
 unfold listOf
 simp only[List.mem_map,List.mem_filter,List.mem_range]
 constructor
 ·rintro ⟨i,⟨h1,h2⟩,rfl⟩;exact ⟨i,h1,h2,rfl⟩
 ·rintro ⟨i,h1,h2,rfl⟩;exact ⟨i,⟨h1,h2⟩,rfl⟩
theorem ZpC:(listOf n M).Pairwise (· < ·):=by
 unfold listOf
 rw[List.pairwise_map]
 refine (List.Pairwise.filter M List.pairwise_lt_range).imp fun {a b} h=>?_
 show (a:Int) < (b:Int)
 omega
theorem ZqN {M':Nat→Bool} (h:∀i,i < n→M i=M' i):listOf n M=listOf n M':=by
 unfold listOf
 congr 1
 exact List.filter_congr fun i hi=>h i (List.mem_range.1 hi)
theorem SetOK.list (h:SetOK s n M) (hn:n < 4611686018427387904):listS s=listOf n M:=by
 have hkey:∀k∈s.2.map Prod.fst,∃k':Nat,k=(k':Int)∧k'*64 < n:=fun k hk=>by
  obtain ⟨p,hp,rfl⟩:=List.mem_map.1 hk
  obtain ⟨k',w,e,h1,_⟩:=h.words p hp
  exact ⟨k',by rw[e],h1⟩
 have hwl:∀k:Nat,k*64 < n→∀x,x∈wordList s.2 (k:Int) 0 64↔∃j:Nat,j < 64∧M (k*64+j)=true∧x=((k*64+j:Nat):Int):=fun k hk x=>by
  obtain ⟨w,hw,hlt⟩:=h.word k
  unfold wordList
  rw[hw]
  simp only[List.mem_map,List.mem_filter,List.mem_range'_1]
  have hnum:∀j:Nat,j < 64→numE (k:Int) (j:Int)=((k*64+j:Nat):Int):=fun j hj=>by
   unfold numE
   rw[wrap_i64 (n:=(k:Int)*64) (by omega) (by omega),wrap_i64 (by omega) (by omega)]
   omega
  have hbit:∀j:Nat,j < 64→bitE (w:Int) (j:Int)=M (k*64+j):=fun j hj=>by
   rw[ZME hlt hj]
   have:=h.bits k j hj
   rwa[hw,Int.toNat_natCast] at this
  constructor
  ·rintro ⟨j,⟨hj,hb⟩,rfl⟩
   exact ⟨j,by omega,by rw[←hbit j (by omega)];exact hb,hnum j (by omega)⟩
  ·rintro ⟨j,hj,hb,rfl⟩
   exact ⟨j,⟨by omega,by rw[hbit j hj];exact hb⟩,hnum j hj⟩
 have hmem:∀ {k:Int},k∈(s.2.map Prod.fst).mergeSort (fun x y=>decide (x≤y))↔k∈s.2.map Prod.fst:=List.mem_mergeSort
 have tr:∀a b c:Int,decide (a≤b)=true→decide (b≤c)=true→decide (a≤c)=true:=fun a b c h1 h2=>by simp at*;omega
 have to:∀a b:Int,(decide (a≤b) || decide (b≤a))=true:=fun a b=>by simp;omega
 have hs1:=List.pairwise_mergeSort tr to (s.2.map Prod.fst)
 have hs2:((s.2.map Prod.fst).mergeSort (fun x y=>decide (x≤y))).Nodup:=(List.mergeSort_perm _ _).nodup_iff.2 h.nodup
 have hst:((s.2.map Prod.fst).mergeSort (fun x y=>decide (x≤y))).Pairwise (· < ·):=(hs1.and hs2).imp fun {a b} h=>by
  have h1:=h.1;have h2:=h.2;simp at h1;omega
 refine ZnM ?_ ZpC fun x=>?_
 ·unfold listS listAt
  rw[List.pairwise_flatMap]
  refine ⟨fun k hk=>?_,?_⟩
  ·obtain ⟨k',rfl,hk'⟩:=hkey k (hmem.1 hk)
   unfold wordList
   rw[List.pairwise_map]
   have hp:((List.range' 0 64).filter fun i=>bitE (wordAt s.2 (k':Int)) (i:Nat)).Pairwise (· < ·):=List.Pairwise.filter _ (List.pairwise_lt_range' (step:=1) (s:=0) (n:=64) (by omega))
   refine (List.Pairwise.and_mem.1 hp).imp fun {a b} h=>?_
   obtain ⟨ha,hb,hab⟩:=h
   have ha':=(List.mem_range'_1.1 (List.mem_filter.1 ha).1)
   have hb':=(List.mem_range'_1.1 (List.mem_filter.1 hb).1)
   unfold numE
   rw[wrap_i64 (n:=(k':Int)*64) (by omega) (by omega),wrap_i64 (by omega) (by omega),wrap_i64 (by omega) (by omega)]
   omega
  ·refine (List.Pairwise.and_mem.1 hst).imp fun {a b} hab=>?_
   obtain ⟨ha,hb,hlt⟩:=hab
   obtain ⟨a',rfl,ha'⟩:=hkey a (hmem.1 ha)
   obtain ⟨b',rfl,hb'⟩:=hkey b (hmem.1 hb)
   intro x hx y hy
   obtain ⟨j,hj,_,rfl⟩:=(hwl a' ha' x).1 hx
   obtain ⟨j',hj',_,rfl⟩:=(hwl b' hb' y).1 hy
   omega
 ·unfold listS listAt
  rw[Zcm,List.mem_flatMap]
  constructor
  ·rintro ⟨k,hk,hx⟩
   obtain ⟨k',rfl,hk'⟩:=hkey k (hmem.1 hk)
   obtain ⟨j,hj,hM,rfl⟩:=(hwl k' hk' x).1 hx
   exact ⟨_,h.lt _ hM,hM,rfl⟩
  ·rintro ⟨i,hi,hM,rfl⟩
   have hb:=h.bits (i / 64) (i % 64) (Nat.mod_lt _ (by decide))
   rw[Nat.div_add_mod' i 64,hM] at hb
   refine ⟨((i / 64:Nat):Int),hmem.2 ?_,(hwl (i / 64) (by omega) _).2 ⟨i % 64,Nat.mod_lt _ (by decide),by rw[Nat.div_add_mod' i 64];exact hM,by rw[Nat.div_add_mod' i 64]⟩⟩
   unfold wordAt at hb
   cases hg:mget (kt:=.int .i64) ((i / 64:Nat):Int) s.2 with
   | none=>rw[hg] at hb;simp at hb
   | some v=>exact List.mem_map.2 ⟨_,Zq3 hg,rfl⟩
theorem SetOK.few (h:SetOK s n M):s.2.length≤(n+63) / 64:=by
 have tr:∀a b c:Int,decide (a≤b)=true→decide (b≤c)=true→decide (a≤c)=true:=fun a b c h1 h2=>by simp at*;omega
 have to:∀a b:Int,(decide (a≤b) || decide (b≤a))=true:=fun a b=>by simp;omega
 have hs1:=List.pairwise_mergeSort tr to (s.2.map Prod.fst)
 have hs2:((s.2.map Prod.fst).mergeSort (fun x y=>decide (x≤y))).Nodup:=(List.mergeSort_perm _ _).nodup_iff.2 h.nodup
 have hst:((s.2.map Prod.fst).mergeSort (fun x y=>decide (x≤y))).Pairwise (· < ·):=(hs1.and hs2).imp fun {a b} h=>by
  have h1:=h.1;have h2:=h.2;simp at h1;omega
 have:=ZCe (a:=0) (b:=(((n+63) / 64:Nat):Int)) hst (fun x hx=>by
  obtain ⟨p,hp,rfl⟩:=List.mem_map.1 (List.mem_mergeSort.1 hx)
  obtain ⟨k',w,e,h1,_⟩:=h.words p hp
  rw[e]
  exact ⟨by simp,by simp;omega⟩) (by omega)
 simp at this
 omega
end Go.Ev
end

section
open Go
namespace Go.Ev
def flowOK (t:List (El Za)):Bool:=decide (t.length < 1099511627776)&&t.all fun i=>smallText i.2.2.2.2.2.1&&decide (i.2.2.2.2.2.2.length < 1099511627776)
theorem Zby {t:List (El Za)} (h:flowOK t=true):t.length < 1099511627776:=by
 unfold flowOK at h;rw[Bool.and_eq_true] at h;exact of_decide_eq_true h.1
theorem ZoB {t:List (El Za)} (h:flowOK t=true) {i:El Za} (hi:i∈t):smallText i.2.2.2.2.2.1=true:=by
 unfold flowOK at h
 rw[Bool.and_eq_true] at h
 have:=List.all_eq_true.1 h.2 i hi
 rw[Bool.and_eq_true] at this
 exact this.1
theorem ZAv {t:List (El Za)} (h:flowOK t=true):(decide (t.length < 1099511627776)&&t.all fun i=>decide (i.2.2.2.2.2.2.length < 1099511627776))=true:=by
 unfold flowOK at h
 rw[Bool.and_eq_true] at h ⊢
 refine ⟨h.1,List.all_eq_true.2 fun i hi=>?_⟩
 have:=List.all_eq_true.1 h.2 i hi
 rw[Bool.and_eq_true] at this
 exact this.2
theorem ZKB {label:ByteArray} :∀ {t:List (El Za)} {k:Nat},findI label t k < ((k+t.length:Nat):Int)∨findI label t k= -1
 | [],k=>.inr rfl
 | x :: r,k=>by
  unfold findI
  split
  ·left;simp;omega
  ·rcases @ZKB label r (k+1) with h | h
   ·left;simp only[List.length_cons];omega
   ·exact .inr h
theorem ZKG {label:ByteArray} :∀ {t:List (El Za)} {k:Nat},findI label t k= -1∨(k:Int)≤findI label t k
 | [],k=>.inl rfl
 | x :: r,k=>by
  unfold findI
  split
  ·right;omega
  ·rcases @ZKG label r (k+1) with h | h
   ·exact .inl h
   ·right;omega
def onOf (t:List (El Za)) (i:Nat):Bool:=(ZaJ (t.getD i (dflt Za))).1
def toOf (t:List (El Za)) (i:Nat):Int:=if (ZaJ (t.getD i (dflt Za))).2 then findI (t.getD i (dflt Za)).2.2.2.2.2.1 t 0 else -1
theorem ZJP {t:List (El Za)} {i:Nat} : -1≤toOf t i∧(toOf t i < (t.length:Int)):=by
 unfold toOf
 split
 ·have h1:= @ZKB (t.getD i (dflt Za)).2.2.2.2.2.1 t 0
  have h2:= @ZKG (t.getD i (dflt Za)).2.2.2.2.2.1 t 0
  rw[Nat.zero_add] at h1
  omega
 ·omega
def nextB (t:List (El Za)) (i:Int) (j:Nat):Bool:=
 decide (0≤i∧i < (t.length:Int)∧j < t.length)&&((onOf t i.toNat&&decide ((j:Int)=i+1)) || decide (toOf t i.toNat=(j:Int)))
theorem Zem {t:List (El Za)} {i:Int} {j:Nat} (h:nextB t i j=true):j < t.length:=by
 unfold nextB at h
 rw[Bool.and_eq_true] at h
 exact (of_decide_eq_true h.1).2.2
def nextL (n:Nat) (on:Bool) (to i:Int):List Int:=
 (if 0≤to∧to≤i then [to] else [])++((if on=true∧i+1 < (n:Int) then [i+1] else [])++(if to > i∧¬(on=true∧i+1 < (n:Int)∧to=i+1) then [to] else []))
theorem ZGD {n:Nat} {on:Bool} {to i:Int} :(nextL n on to i).Pairwise (· < ·):=by
 unfold nextL
 by_cases h1:0≤to∧to≤i
 ·rw[if_pos h1,if_neg (c:=to > i∧_) (fun h=>by omega)]
  by_cases h2:on=true∧i+1 < (n:Int)
  ·rw[if_pos h2];simp;omega
  ·rw[if_neg h2];simp
 ·rw[if_neg h1]
  by_cases h2:on=true∧i+1 < (n:Int)
  ·rw[if_pos h2]
   by_cases h3:to > i∧¬(on=true∧i+1 < (n:Int)∧to=i+1)
   ·rw[if_pos h3]
    have:to≠i+1:=fun e=>h3.2 ⟨h2.1,h2.2,e⟩
    simp;omega
   ·rw[if_neg h3];simp
  ·rw[if_neg h2]
   by_cases h3:to > i∧¬(on=true∧i+1 < (n:Int)∧to=i+1)
   ·rw[if_pos h3];simp
   ·rw[if_neg h3];simp
theorem ZKd {t:List (El Za)} {i:Nat} (hi:i < t.length):nextL t.length (onOf t i) (toOf t i) (i:Int)=listOf t.length (nextB t (i:Int)):=by
 refine ZnM ZGD ZpC fun x=>?_
 rw[Zcm]
 have hb:∀j:Nat,nextB t (i:Int) j=true↔j < t.length∧((onOf t i=true∧(j:Int)=(i:Int)+1)∨toOf t i=(j:Int)):=fun j=>by
  unfold nextB
  rw[Int.toNat_natCast]
  simp only[Bool.and_eq_true,Bool.or_eq_true,decide_eq_true_eq]
  constructor
  ·rintro ⟨⟨_,_,h⟩,h2⟩;exact ⟨h,h2⟩
  ·rintro ⟨h,h2⟩;exact ⟨⟨by omega,by omega,h⟩,h2⟩
 have ht:= @ZJP t i
 unfold nextL
 constructor
 ·intro h
  simp only[List.mem_append] at h
  rcases h with h | h | h
  ·split at h
   ·rename_i hc
    simp at h
    subst h
    exact ⟨(toOf t i).toNat,by omega,(hb _).2 ⟨by omega,.inr (by omega)⟩,by omega⟩
   ·simp at h
  ·split at h
   ·rename_i hc
    simp at h
    subst h
    exact ⟨i+1,by omega,(hb _).2 ⟨by omega,.inl ⟨hc.1,by omega⟩⟩,by omega⟩
   ·simp at h
  ·split at h
   ·rename_i hc
    simp at h
    subst h
    exact ⟨(toOf t i).toNat,by omega,(hb _).2 ⟨by omega,.inr (by omega)⟩,by omega⟩
   ·simp at h
 ·rintro ⟨j,hj,hM,rfl⟩
  obtain ⟨_,h⟩:=(hb j).1 hM
  simp only[List.mem_append]
  rcases h with ⟨h1,h2⟩ | h
  ·right;left
   rw[if_pos ⟨h1,by omega⟩];simp;omega
  ·by_cases hle:toOf t i≤(i:Int)
   ·left;rw[if_pos ⟨by omega,hle⟩];simp;omega
   ·right
    by_cases hc:onOf t i=true∧(i:Int)+1 < (t.length:Int)∧toOf t i=(i:Int)+1
    ·left;rw[if_pos ⟨hc.1,hc.2.1⟩];simp;omega
    ·right;rw[if_pos ⟨by omega,hc⟩];simp;omega
end Go.Ev
end

section
open Go
namespace Go.Ev
def rowOf (n:Nat) (M:Nat→Bool):List Bool:=(List.range n).map M
theorem ZJ {n:Nat} {M:Nat→Bool} :(rowOf n M).length=n:=by simp[rowOf]
theorem ZnQ {n:Nat} {M:Nat→Bool} {i:Nat} (h:i < n):(rowOf n M)[i]? =some (M i):=by simp[rowOf,h]
theorem Zqx {n:Nat} {M:Nat→Bool} {i:Nat} :(rowOf n M).set i true=rowOf n fun j=>M j || (j==i):=by
 apply List.ext_getElem?
 intro j
 rw[List.getElem?_set,ZJ]
 by_cases hj:j < n
 ·rw[ZnQ hj,ZnQ hj]
  by_cases hi:i=j
  ·subst hi;rw[if_pos rfl,if_pos hj];simp
  ·rw[if_neg hi]
   have:(j==i)=false:=by simp;omega
   rw[this,Bool.or_false]
 ·rw[List.getElem?_eq_none (by rw[ZJ];omega),List.getElem?_eq_none (by rw[ZJ];omega)]
  by_cases hi:i=j
  ·rw[if_pos hi,if_neg (by omega)]
  ·rw[if_neg hi]
theorem Z3 {n:Nat} {M M':Nat→Bool} (h:∀i,i < n→M i=M' i):rowOf n M=rowOf n M':=List.map_congr_left fun i hi=>h i (List.mem_range.1 hi)
theorem ZnK {n:Nat} :List.replicate n false=rowOf n fun _=>false:=by
 apply List.ext_getElem?
 intro j
 by_cases hj:j < n
 ·rw[ZnQ hj];simp[hj]
 ·rw[List.getElem?_eq_none (by simp;omega),List.getElem?_eq_none (by rw[ZJ];omega)]
def Za8 (t:List (El Za)) (i:Int):List Bool:=rowOf t.length (nextB t i)
def ZcS (t:List (El Za)) (i:Int):Bool:=flowOK t
theorem ZJ2 (t:List (El Za)) (i:Int) (hk:ZcS t i=true):Goes (Zoy t i) (Zq8 t i) (Za8 t i):=by
 have hlen:=Zby hk
 have hout:∀i,¬(0≤i∧i < (t.length:Int))→List.replicate t.length false=rowOf t.length (nextB t i):=fun i h=>by
  rw[ZnK]
  refine Z3 fun j hj=>?_
  unfold nextB
  rw[decide_eq_false (fun hh=>h ⟨hh.1,hh.2.1⟩),Bool.false_and]
 unfold Zq8 Za8
 rw[Ze,if_pos (by unfold limit;simp;omega),Ze]
 by_cases h0:i < 0
 ·rw[if_pos (decide_eq_true h0),←hout i (fun h=>by omega)];exact .leaf
 rw[if_neg (by simpa using h0),Ze]
 obtain ⟨j,rfl⟩:=Int.eq_ofNat_of_zero_le (show 0≤i by omega)
 by_cases h1:(t.length:Int)≤(j:Int)
 ·rw[if_pos (decide_eq_true (show (j:Int)≥Int.ofNat t.length from h1)),←hout _ (fun h=>by omega)];exact .leaf
 have hj:j < t.length:=by omega
 rw[if_neg (by simp;omega),Ze,if_pos (Zaq hj),Ze,Int.toNat_natCast]
 have hmem:t.getD j (dflt Za)∈t:=by rw[ZH hj];exact List.getElem_mem hj
 have hsm:=ZoB hk hmem
 rw[if_pos (ZIK hsm),ZLR hsm]
 have kf:Ze1 t (t.getD j (dflt Za)).2.2.2.2.2.1=true:=ZAv hk
 have vf:ZcW t (t.getD j (dflt Za)).2.2.2.2.2.1=findI (t.getD j (dflt Za)).2.2.2.2.2.1 t 0:=rfl
 have hw:IntKind.i64.wrap ((j:Int)+1)=((j+1:Nat):Int):=Zr (by omega)
 have hr:= @ZJP t j
 have l6:∀(M:Nat→Bool),Goes (Zoy t (j:Int)) (.jmp (.l6 (ZaJ (t.getD j (dflt Za))).2 (rowOf t.length M))) (rowOf t.length fun k=>M k || decide (toOf t j=(k:Int))):=by
  intro M
  rw[Zi,Zoy,Ze]
  by_cases hjmp:(ZaJ (t.getD j (dflt Za))).2=true
  ·have hto:toOf t j=findI (t.getD j (dflt Za)).2.2.2.2.2.1 t 0:=by unfold toOf;rw[if_pos hjmp]
   rw[hto] at hr
   rw[if_pos hjmp,Ze,if_pos (Zaq hj),Ze,Int.toNat_natCast,if_pos kf,Ze,vf,hto]
   generalize findI (t.getD j (dflt Za)).2.2.2.2.2.1 t 0=to at hr
   by_cases h2:to≥0
   ·obtain ⟨k,rfl⟩:=Int.eq_ofNat_of_zero_le h2
    rw[if_pos (decide_eq_true h2),Ze,if_pos (by rw[ZJ];exact Zaq (by omega)),Int.toNat_natCast,Zqx]
    rw[show (rowOf t.length fun l=>M l || decide ((k:Int)=(l:Int)))=rowOf t.length fun l=>M l || (l==k) from Z3 fun l _=>by
     congr 1
     rw[Bool.eq_iff_iff];simp;omega]
    exact .leaf
   ·rw[if_neg (by simpa using h2)]
    rw[show (rowOf t.length fun l=>M l || decide (to=(l:Int)))=rowOf t.length M from Z3 fun l _=>by
     rw[decide_eq_false (by omega),Bool.or_false]]
    exact .leaf
  ·have hto:toOf t j= -1:=by unfold toOf;rw[if_neg hjmp]
   rw[if_neg hjmp,hto]
   rw[show (rowOf t.length fun l=>M l || decide ((-1:Int)=(l:Int)))=rowOf t.length M from Z3 fun l _=>by
     rw[decide_eq_false (by omega),Bool.or_false]]
   exact .leaf
 have hB:∀k,k < t.length→nextB t (j:Int) k=((onOf t j&&decide ((k:Int)=(j:Int)+1)) || decide (toOf t j=(k:Int))):=fun k hk=>by
  unfold nextB
  rw[decide_eq_true (by omega),Bool.true_and,Int.toNat_natCast]
 rw[ZnK,Ze]
 by_cases hon:(ZaJ (t.getD j (dflt Za))).1=true
 ·have hon':onOf t j=true:=hon
  rw[if_pos hon,Ze,hw]
  by_cases hin:j+1 < t.length
  ·rw[if_pos (ZR hin),Ze,ZJ,if_pos (Zaq hin),Int.toNat_natCast,Zqx]
   have:=l6 fun k=>false || (k==j+1)
   rw[show rowOf t.length (nextB t (j:Int))=rowOf t.length fun k=>(false || (k==j+1)) || decide (toOf t j=(k:Int)) from Z3 fun k hk=>by
    rw[hB k hk,hon',Bool.true_and,Bool.false_or]
    congr 1
    rw[Bool.eq_iff_iff];simp;omega]
   exact this
  ·rw[if_neg (by rw[Zw hin];decide)]
   have:=l6 fun _=>false
   rw[show rowOf t.length (nextB t (j:Int))=rowOf t.length fun k=>false || decide (toOf t j=(k:Int)) from Z3 fun k hk=>by
    rw[hB k hk,hon',Bool.true_and,decide_eq_false (show ¬(k:Int)=(j:Int)+1 by omega)]]
   exact this
 ·have hon':onOf t j=false:=Bool.eq_false_iff.2 hon
  rw[if_neg hon]
  have:=l6 fun _=>false
  rw[show rowOf t.length (nextB t (j:Int))=rowOf t.length fun k=>false || decide (toOf t j=(k:Int)) from Z3 fun k hk=>by
   rw[hB k hk,hon',Bool.false_and]]
  exact this
end Go.Ev
end

section
open Go Go.Ev
namespace Go.Ev
noncomputable section
noncomputable def Zuc:Run:=entG Zg9 ZoD (fun a=>ZcS a.1 a.2.1) (fun a=>Za8 a.1 a.2.1)
theorem ZwX:EntOK Go.Proofs.Tryz.prog 45 Zuc:=ZM (tb:=ZrQ) (c:=ZoH) ZGz (by kernel_rfl) (by kernel_rfl) (by kernel_rfl) (fun a=>by kernel_rfl) fun ⟨t,i,_⟩ hk=>Zm (c:=ZoH) (K:=fun v=>(ZoD v,tps (toForms Zg9 (t,i,())))) (S:=Zgh t i) (by kernel_rfl) (ZGp t i) (ZIj t i) (ZJ2 t i hk)
end
end Go.Ev
end

section
open Go Go.Ev
namespace Go.Ev
noncomputable section
def Zhl:Sig:=[(true,(.sl Za)),(false,(.int .i64))]
noncomputable def Zur:Tbl:=[(45,Zuc)]
theorem ZFB:∀p∈Zur,EntOK Go.Proofs.Tryz.prog p.1 p.2:=Zg ZwX (Zu)
noncomputable def Zoo:Code:=Go.Proofs.Tryz.f29.body.getD .skip
def ZqB:Tb:=[(4,⟨[2,5,6],[]⟩),(9,⟨[2,5,6,7],[]⟩),(17,⟨[2,5,6,7,8,9],[]⟩)]
inductive Zk7 where | l4 (moved:Bool) (is:List Bool) | l9 (k:Int) (moved:Bool) (is:List Bool) | l17 (k:Int) (more:List Bool) (moved:Bool) (j_:Int) (is:List Bool)
def ZbV (t:List (El Za)) (i:Int):Zk7→JT Zk7 (List Bool) |.l4 moved is=>.br moved (.jmp (.l9 (0:Int) false is)) (.leaf is) |.l9 k moved is=>.br (decide (k < (Int.ofNat (List.length is)))) (.br ((decide ((0:Int)≤k))&&(decide (k < (Int.ofNat (List.length is))))) (.br (! (List.getD is (Int.toNat k) (dflt .bool))) (.jmp (.l9 (IntKind.i64.wrap (k+(1:Int))) moved is)) (.br (ZcS t k) (.jmp (.l17 k (Za8 t k) moved (0:Int) is)) (.no))) (.no)) (.jmp (.l4 moved is)) |.l17 k more moved j_ is=>.br (decide (j_ < (Int.ofNat (List.length is)))) (.br ((decide ((0:Int)≤j_))&&(decide (j_ < (Int.ofNat (List.length more))))) (.br (List.getD more (Int.toNat j_) (dflt .bool)) (.br ((decide ((0:Int)≤j_))&&(decide (j_ < (Int.ofNat (List.length is))))) (.br (! (List.getD is (Int.toNat j_) (dflt .bool))) (.br ((decide ((0:Int)≤j_))&&(decide (j_ < (Int.ofNat (List.length is))))) (.jmp (.l17 k more true (IntKind.i64.wrap (j_+(1:Int))) (List.set is (Int.toNat j_) true))) (.no)) (.jmp (.l17 k more moved (IntKind.i64.wrap (j_+(1:Int))) is))) (.no)) (.jmp (.l17 k more moved (IntKind.i64.wrap (j_+(1:Int))) is))) (.no)) (.jmp (.l9 (IntKind.i64.wrap (k+(1:Int))) moved is))
def ZrC (t:List (El Za)) (i:Int):JT Zk7 (List Bool):=.br (ZcS t i) (.jmp (.l4 true (Za8 t i))) (.no)
def Zpu:List Bool→AV:=fun (r:List Bool)=>.rw 4 .bool r
def Zgk (t:List (El Za)) (i:Int):Zk7→Nat×St |.l4 moved is=>(4,⟨mkTm 49 [(2,.pt 3 0 0),(5,.own 6 0 none),(6,.d .bool moved)],[(3,0,.box 33 [.d (.sl Za) t] none),(6,0,.row 4 .bool is false)]⟩) |.l9 k moved is=>(9,⟨mkTm 49 [(2,.pt 3 0 0),(5,.own 6 0 none),(6,.d .bool moved),(7,.d (.int .i64) k)],[(3,0,.box 33 [.d (.sl Za) t] none),(6,0,.row 4 .bool is false)]⟩) |.l17 k more moved j_ is=>(17,⟨mkTm 49 [(2,.pt 3 0 0),(5,.own 6 0 none),(6,.d .bool moved),(7,.d (.int .i64) k),(8,.own 9 0 none),(9,.d (.int .i64) j_)],[(3,0,.box 33 [.d (.sl Za) t] none),(6,0,.row 4 .bool is false),(9,0,.row 4 .bool more false)]⟩)
theorem ZH9 (t:List (El Za)) (i:Int) (L:Lt):entryA Go.Proofs.Tryz.prog (clOf Zur) ZqB Go.Proofs.Tryz.f29 Zoo L (toForms Zhl (t,i,()))=(ZrC t i).run (fun v=>some (Zpu v,tps (toForms Zhl (t,i,())))) fun j=>L (Zgk t i j).1 (Zgk t i j).2:=by kernel_rfl
theorem ZGr (t:List (El Za)) (i:Int):∀(L:Lt) (j:Zk7),procOf (procsF Go.Proofs.Tryz.prog (clOf Zur) ZqB Go.Proofs.Tryz.f29 Zoo (toForms Zhl (t,i,()))) (Zgk t i j).1 L (Zgk t i j).2=(ZbV t i j).run (fun v=>some (Zpu v,tps (toForms Zhl (t,i,())))) fun j=>L (Zgk t i j).1 (Zgk t i j).2 | L,.l4 moved is=>by kernel_rfl | L,.l9 k moved is=>by kernel_rfl | L,.l17 k more moved j_ is=>by kernel_rfl
end
end Go.Ev
end

section
open Go
namespace Go.Ev
inductive Come (N:Nat→Nat→Bool) (A:Nat→Bool):Nat→Prop
 | start {j:Nat} :A j=true→Come N A j
 | step {k j:Nat} :Come N A k→N k j=true→Come N A j
noncomputable def comeB (N:Nat→Nat→Bool) (A:Nat→Bool) (j:Nat):Bool:= @decide (Come N A j) (Classical.propDecidable _)
theorem ZdQ {N:Nat→Nat→Bool} {A:Nat→Bool} {j:Nat} :comeB N A j=true↔Come N A j:= @decide_eq_true_iff _ (Classical.propDecidable _)
theorem Zpy {N:Nat→Nat→Bool} {A M:Nat→Bool} (h1:∀j,A j=true→M j=true) (h2:∀k j,M k=true→N k j=true→M j=true) (h3:∀j,M j=true→Come N A j) (j:Nat):M j=comeB N A j:=by
 rw[Bool.eq_iff_iff,ZdQ]
 refine ⟨h3 j,fun h=>?_⟩
 induction h with
 | start h=>exact h1 _ h
 | step _ h ih=>exact h2 _ _ ih h
theorem ZC7 {N:Nat→Nat→Bool} {A:Nat→Bool} {n:Nat} (hA:∀j,A j=true→j < n) (hN:∀k j,N k j=true→j < n) {j:Nat} (h:Come N A j):j < n:=by
 cases h with
 | start h=>exact hA _ h
 | step _ h=>exact hN _ _ h
def card (n:Nat) (M:Nat→Bool):Nat:=(List.range n).countP M
theorem Zes {n:Nat} {M:Nat→Bool} :card n M≤n:=by
 have:=List.countP_le_length (p:=M) (l:=List.range n)
 simpa[card] using this
theorem Zmm {M:Nat→Bool} {i:Nat} (hM:M i=false):∀ {n:Nat},i < n→card n (fun j=>M j || (j==i))=card n M+1:=by
 intro n
 induction n with
 | zero=>intro h;omega
 | succ n ih=>
  intro h
  unfold card at*
  rw[List.range_succ,List.countP_append,List.countP_append]
  by_cases hi:i=n
  ·subst hi
   have e:(List.range i).countP (fun j=>M j || (j==i))=(List.range i).countP M:=List.countP_congr fun j hj=>by
    have:=List.mem_range.1 hj
    have:(j==i)=false:=by simp;omega
    rw[this,Bool.or_false]
   rw[e]
   simp[hM]
  ·rw[ih (by omega)]
   have:(n==i)=false:=by simp;omega
   simp[this]
   omega
theorem Zhr {n:Nat} {M:Nat→Bool} :(listOf n M).length=card n M:=by
 unfold listOf card
 rw[List.length_map,List.countP_eq_length_filter]
end Go.Ev
end

section
open Go
namespace Go.Ev
noncomputable def fromB (t:List (El Za)) (i:Int) (j:Nat):Bool:=comeB (fun k j=>nextB t (k:Int) j) (nextB t i) j
theorem ZNk {t:List (El Za)} {i:Int} {j:Nat} (h:fromB t i j=true):j < t.length:=ZC7 (fun j=>Zem) (fun k j=>Zem) (ZdQ.1 h)
end Go.Ev
end

section
open Go
namespace Go.Ev
theorem Zbs {n:Nat} {M:Nat→Bool} {i:Nat} (h:i < n):List.getD (rowOf n M) i (dflt .bool)=M i:=by
 simp[List.getD,ZnQ h]
theorem ZzX {n:Nat} {M:Nat→Bool} {i:Nat} {b:Bool} :(rowOf n M).set i b=rowOf n fun j=>if j=i then b else M j:=by
 apply List.ext_getElem?
 intro j
 rw[List.getElem?_set,ZJ]
 by_cases hj:j < n
 ·rw[ZnQ hj,ZnQ hj]
  by_cases hi:i=j
  ·subst hi;rw[if_pos rfl,if_pos hj,if_pos rfl]
  ·rw[if_neg hi,if_neg (fun e=>hi e.symm)]
 ·rw[List.getElem?_eq_none (by rw[ZJ];omega),List.getElem?_eq_none (by rw[ZJ];omega)]
  by_cases hi:i=j
  ·rw[if_pos hi,if_neg (by omega)]
  ·rw[if_neg hi]
end Go.Ev
end

section
open Go
namespace Go.Ev
noncomputable def Zam (t:List (El Za)) (i:Int):List Bool:=rowOf t.length (fromB t i)
def Zcc (t:List (El Za)) (i:Int):Bool:=flowOK t
theorem ZIV (t:List (El Za)) (i:Int) (hk:Zcc t i=true):Goes (ZbV t i) (ZrC t i) (Zam t i):=by
 have hlen:=Zby hk
 generalize hn:t.length=n at hlen
 let OK:(Nat→Bool)→(Nat→Bool)→Bool→Prop:=fun M0 M moved=>(∀j,nextB t i j=true→M j=true)∧(∀j,M j=true→Come (fun k j=>nextB t (k:Int) j) (nextB t i) j)∧(moved=false→M=M0)∧(moved=true→card n M0 < card n M)
 have hltM:∀ {M0 M moved},OK M0 M moved→∀j,M j=true→j < n:=fun h j hj=>by
  have:=ZC7 (n:=t.length) (fun j=>Zem) (fun k j=>Zem) (h.2.1 j hj)
  omega
 have loop:∀m,∀M:Nat→Bool,n - card n M=m→(∀j,nextB t i j=true→M j=true)→(∀j,M j=true→Come (fun k j=>nextB t (k:Int) j) (nextB t i) j)→Goes (ZbV t i) (.jmp (.l4 true (rowOf n M))) (Zam t i):=by
  intro m
  induction m using Nat.strongRecOn with
  | _ m ih=>
  intro M0 hm hA hC
  have inner:∀k,k < n→∀Z:Prop,(∀M moved,OK M0 M moved→(moved=false→Z∧∀j,nextB t (k:Int) j=true→M0 j=true)→Goes (ZbV t i) (.jmp (.l9 ((k+1:Nat):Int) moved (rowOf n M))) (Zam t i))→
    ∀j,j≤n→∀M moved,M k=true→OK M0 M moved→(moved=false→Z∧∀x,x < j→nextB t (k:Int) x=true→M0 x=true)→Goes (ZbV t i) (.jmp (.l17 (k:Int) (rowOf n (nextB t (k:Int))) moved (j:Int) (rowOf n M))) (Zam t i):=by
   intro k hkn Z hz
   refine down ?_ fun j hj ih2=>?_
   ·intro M moved hMk hok hcl
    rw[Zi,ZbV,Ze,ZJ,if_neg (by rw[Zw (Nat.lt_irrefl _)];decide),Zr (by omega)]
    exact hz M moved hok fun hm=>⟨(hcl hm).1,fun j hj=>(hcl hm).2 j (by have:=Zem hj;omega) hj⟩
   ·intro M moved hMk hok hcl
    rw[Zi,ZbV,Ze,ZJ,if_pos (ZR hj),Ze,ZJ,if_pos (Zaq hj),Ze,Int.toNat_natCast,Zbs hj,Zr (by omega)]
    by_cases hN:nextB t (k:Int) j=true
    ·rw[if_pos hN,Ze,if_pos (Zaq hj),Ze,Zbs hj]
     cases hMj:M j with
     | true=>
      rw[if_neg (by decide)]
      refine ih2 M moved hMk hok fun hm=>⟨(hcl hm).1,fun x hx hxN=>?_⟩
      by_cases hxj:x=j
      ·subst hxj;rw[←hok.2.2.1 hm];exact hMj
      ·exact (hcl hm).2 x (by omega) hxN
     | false=>
      rw[if_pos (by decide),Ze,if_pos (Zaq hj),Zqx]
      have hca:=Zmm hMj hj
      refine ih2 (fun x=>M x || (x==j)) true (by rw[hMk];rfl) ⟨fun x hx=>(show (M x || (x==j))=true by rw[hok.1 x hx];rfl),fun x hx=>?_,fun h=>(by cases h),fun _=>?_⟩ (fun h=>by cases h)
      ·simp only[Bool.or_eq_true,beq_iff_eq] at hx
       rcases hx with hx | hx
       ·exact hok.2.1 x hx
       ·subst hx;exact .step (hok.2.1 k hMk) hN
      ·cases moved with
       | true=>have:=hok.2.2.2 rfl;omega
       | false=>rw[hok.2.2.1 rfl] at hca;rw[hok.2.2.1 rfl];omega
    ·rw[if_neg hN]
     refine ih2 M moved hMk hok fun hm=>⟨(hcl hm).1,fun x hx hxN=>?_⟩
     by_cases hxj:x=j
     ·subst hxj;exact absurd hxN hN
     ·exact (hcl hm).2 x (by omega) hxN
  have pass:∀k,k≤n→∀M moved,OK M0 M moved→(moved=false→∀k' j,k' < k→M0 k'=true→nextB t (k':Int) j=true→M0 j=true)→Goes (ZbV t i) (.jmp (.l9 (k:Int) moved (rowOf n M))) (Zam t i):=by
   refine down ?_ fun k hkn ih2=>?_
   ·intro M moved hok hcl
    rw[Zi,ZbV,Ze,ZJ,if_neg (by rw[Zw (Nat.lt_irrefl _)];decide)]
    cases moved with
    | true=>
     have h1:=hok.2.2.2 rfl
     have h2:= @Zes n M
     exact ih (n - card n M) (by omega) M rfl hok.1 hok.2.1
    | false=>
     have e:=hok.2.2.1 rfl
     subst e
     rw[Zi,ZbV,Ze,if_neg (by decide)]
     have hv:rowOf n M=Zam t i:=by
      unfold Zam fromB
      rw[hn]
      exact Z3 fun j _=>Zpy hok.1 (fun k j hk hj=>hcl rfl k j (hltM hok k hk) hk hj) hok.2.1 j
     rw[hv];exact .leaf
   ·intro M moved hok hcl
    rw[Zi,ZbV,Ze,ZJ,if_pos (ZR hkn),Ze,if_pos (Zaq hkn),Ze,Int.toNat_natCast,Zbs hkn]
    cases hMk:M k with
    | false=>
     rw[if_pos (by decide),Zr (by omega)]
     refine ih2 M moved hok fun hm k' j hk' hk1 hj=>?_
     by_cases e:k'=k
     ·subst e;rw[←hok.2.2.1 hm,hMk] at hk1;cases hk1
     ·exact hcl hm k' j (by omega) hk1 hj
    | true=>
     have kn:ZcS t (k:Int)=true:=hk
     rw[if_neg (by decide),Ze,if_pos kn]
     have hvn:Za8 t (k:Int)=rowOf n (nextB t (k:Int)):=by unfold Za8;rw[hn]
     rw[hvn]
     refine inner k hkn (∀k' j,k' < k→M0 k'=true→nextB t (k':Int) j=true→M0 j=true) (fun M' moved' hok' hcl'=>ih2 M' moved' hok' fun hm k' j hk' hk1 hj=>?_) 0 (Nat.zero_le _) M moved hMk hok (fun hm=>⟨hcl hm,fun x hx=>by omega⟩)
     by_cases e:k'=k
     ·subst e;exact (hcl' hm).2 j hj
     ·exact (hcl' hm).1 k' j (by omega) hk1 hj
  rw[Zi,ZbV,Ze,if_pos rfl]
  exact pass 0 (Nat.zero_le _) M0 false ⟨hA,hC,fun _=>rfl,fun h=>by cases h⟩ fun _ k' j h=>by omega
 have kn:ZcS t i=true:=hk
 unfold ZrC
 rw[Ze,if_pos kn]
 have hvn:Za8 t i=rowOf n (nextB t i):=by unfold Za8;rw[hn]
 rw[hvn]
 exact loop _ (nextB t i) rfl (fun j h=>h) (fun j h=>.start h)
end Go.Ev
end

section
open Go Go.Ev
namespace Go.Ev
noncomputable section
noncomputable def Zup:Run:=entG Zhl Zpu (fun a=>Zcc a.1 a.2.1) (fun a=>Zam a.1 a.2.1)
theorem ZxM:EntOK Go.Proofs.Tryz.prog 29 Zup:=ZM (tb:=ZqB) (c:=Zoo) ZFB (by kernel_rfl) (by kernel_rfl) (by kernel_rfl) (fun a=>by kernel_rfl) fun ⟨t,i,_⟩ hk=>Zm (c:=Zoo) (K:=fun v=>(Zpu v,tps (toForms Zhl (t,i,())))) (S:=Zgk t i) (by kernel_rfl) (ZH9 t i) (ZGr t i) (ZIV t i hk)
end
end Go.Ev
end

section
open Go Go.Ev
namespace Go.Ev
noncomputable section
def ZfB:Sig:=[(true,Zb),(true,Zb)]
noncomputable def ZrO:Tbl:=[]
theorem ZEQ:∀p∈ZrO,EntOK Go.Proofs.Tryz.prog p.1 p.2:=Zu
noncomputable def ZlJ:Code:=Go.Proofs.Tryz.f52.body.getD .skip
def Zpv:Tb:=[]
def ZwT (a:El Zb) (b:El Zb):Empty→JT Empty (Bool):=fun j=>nomatch j
def ZuR (a:El Zb) (b:El Zb):JT Empty (Bool):=.br (a.1 !=b.1) (.br (a.2.2.2.1==b.2.2.2.1) (.br a.2.2.2.2.1 (.leaf true) (.leaf b.2.2.2.2.1)) (.leaf false)) (.leaf false)
def Zg2 (a:El Zb) (b:El Zb):Bool:=bif (a.1 !=b.1) then bif (a.2.2.2.1==b.2.2.2.1) then bif a.2.2.2.2.1 then true else b.2.2.2.2.1 else false else false
theorem ZFK (a:El Zb) (b:El Zb):Goes (ZwT a b) (ZuR a b) (Zg2 a b):=Goes.br (Goes.br (Goes.br (Goes.leaf) (Goes.leaf)) (Goes.leaf)) (Goes.leaf)
def Zmf:Bool→AV:=fun (r:Bool)=>.d .bool r
def Zfd (a:El Zb) (b:El Zb):Empty→Nat×St:=fun j=>nomatch j
theorem ZCW (a:El Zb) (b:El Zb) (L:Lt):entryA Go.Proofs.Tryz.prog (clOf ZrO) Zpv Go.Proofs.Tryz.f52 ZlJ L (toForms ZfB (a,b,()))=(ZuR a b).run (fun v=>some (Zmf v,tps (toForms ZfB (a,b,())))) fun j=>L (Zfd a b j).1 (Zfd a b j).2:=by kernel_rfl
theorem ZCQ (a:El Zb) (b:El Zb):∀(L:Lt) (j:Empty),procOf (procsF Go.Proofs.Tryz.prog (clOf ZrO) Zpv Go.Proofs.Tryz.f52 ZlJ (toForms ZfB (a,b,()))) (Zfd a b j).1 L (Zfd a b j).2=(ZwT a b j).run (fun v=>some (Zmf v,tps (toForms ZfB (a,b,())))) fun j=>L (Zfd a b j).1 (Zfd a b j).2:=fun L j=>nomatch j
noncomputable def Zw4:Run:=entT ZfB Zmf (fun a=>Zg2 a.1 a.2.1)
theorem ZD6:EntOK Go.Proofs.Tryz.prog 52 Zw4:=Zat (tb:=Zpv) (c:=ZlJ) ZEQ (by kernel_rfl) (by kernel_rfl) (by kernel_rfl) (fun a=>by kernel_rfl) fun ⟨a,b,_⟩=>Zm (c:=ZlJ) (K:=fun v=>(Zmf v,tps (toForms ZfB (a,b,())))) (S:=Zfd a b) (by kernel_rfl) (ZCW a b) (ZCQ a b) (ZFK a b)
end
end Go.Ev
end

section
open Go Go.Ev
namespace Go.Ev
noncomputable section
def Zde:Sig:=[(true,Zc),(true,Zb),(true,Zb)]
noncomputable def Znb:Tbl:=[(29,Zup)]
theorem ZAp:∀p∈Znb,EntOK Go.Proofs.Tryz.prog p.1 p.2:=Zg ZxM (Zu)
noncomputable def ZiL:Code:=Go.Proofs.Tryz.f53.body.getD .skip
def ZkX:Tb:=[]
def Ztb (p:El Zc) (a:El Zb) (b:El Zb):Empty→JT Empty (Bool):=fun j=>nomatch j
def Zre (p:El Zc) (a:El Zb) (b:El Zb):JT Empty (Bool):=.br (a.1 !=b.1) (.leaf false) (.br ((a.1==b.1)&&((a.2.1==b.2.1)&&((a.2.2.1==b.2.2.1)&&((a.2.2.2.1==b.2.2.2.1)&&((a.2.2.2.2.1==b.2.2.2.2.1)&&(a.2.2.2.2.2==b.2.2.2.2.2)))))) (.leaf true) (.br (a.2.1==b.2.1) (.br (decide (b.2.2.1 > a.2.2.1)) (.leaf true) (.br ((decide ((0:Int)≤a.1))&&(decide (a.1 < (Int.ofNat (List.length p.2))))) (.br (Zcc (List.getD p.2 (Int.toNat a.1) (dflt (.sl Za))) a.2.1) (.br ((decide ((0:Int)≤b.2.1))&&(decide (b.2.1 < (Int.ofNat (List.length (Zam (List.getD p.2 (Int.toNat a.1) (dflt (.sl Za))) a.2.1)))))) (.leaf (List.getD (Zam (List.getD p.2 (Int.toNat a.1) (dflt (.sl Za))) a.2.1) (Int.toNat b.2.1) (dflt .bool))) (.no)) (.no)) (.no))) (.br ((decide ((0:Int)≤a.1))&&(decide (a.1 < (Int.ofNat (List.length p.2))))) (.br (Zcc (List.getD p.2 (Int.toNat a.1) (dflt (.sl Za))) a.2.1) (.br ((decide ((0:Int)≤b.2.1))&&(decide (b.2.1 < (Int.ofNat (List.length (Zam (List.getD p.2 (Int.toNat a.1) (dflt (.sl Za))) a.2.1)))))) (.leaf (List.getD (Zam (List.getD p.2 (Int.toNat a.1) (dflt (.sl Za))) a.2.1) (Int.toNat b.2.1) (dflt .bool))) (.no)) (.no)) (.no))))
def Zed (p:El Zc) (a:El Zb) (b:El Zb):Bool:=bif (a.1 !=b.1) then false else bif ((a.1==b.1)&&((a.2.1==b.2.1)&&((a.2.2.1==b.2.2.1)&&((a.2.2.2.1==b.2.2.2.1)&&((a.2.2.2.2.1==b.2.2.2.2.1)&&(a.2.2.2.2.2==b.2.2.2.2.2)))))) then true else bif (a.2.1==b.2.1) then bif (decide (b.2.2.1 > a.2.2.1)) then true else bif ((decide ((0:Int)≤a.1))&&(decide (a.1 < (Int.ofNat (List.length p.2))))) then bif (Zcc (List.getD p.2 (Int.toNat a.1) (dflt (.sl Za))) a.2.1) then bif ((decide ((0:Int)≤b.2.1))&&(decide (b.2.1 < (Int.ofNat (List.length (Zam (List.getD p.2 (Int.toNat a.1) (dflt (.sl Za))) a.2.1)))))) then (List.getD (Zam (List.getD p.2 (Int.toNat a.1) (dflt (.sl Za))) a.2.1) (Int.toNat b.2.1) (dflt .bool)) else false else false else false else bif ((decide ((0:Int)≤a.1))&&(decide (a.1 < (Int.ofNat (List.length p.2))))) then bif (Zcc (List.getD p.2 (Int.toNat a.1) (dflt (.sl Za))) a.2.1) then bif ((decide ((0:Int)≤b.2.1))&&(decide (b.2.1 < (Int.ofNat (List.length (Zam (List.getD p.2 (Int.toNat a.1) (dflt (.sl Za))) a.2.1)))))) then (List.getD (Zam (List.getD p.2 (Int.toNat a.1) (dflt (.sl Za))) a.2.1) (Int.toNat b.2.1) (dflt .bool)) else false else false else false
def Zd7 (p:El Zc) (a:El Zb) (b:El Zb):Bool:=bif (a.1 !=b.1) then true else bif ((a.1==b.1)&&((a.2.1==b.2.1)&&((a.2.2.1==b.2.2.1)&&((a.2.2.2.1==b.2.2.2.1)&&((a.2.2.2.2.1==b.2.2.2.2.1)&&(a.2.2.2.2.2==b.2.2.2.2.2)))))) then true else bif (a.2.1==b.2.1) then bif (decide (b.2.2.1 > a.2.2.1)) then true else bif ((decide ((0:Int)≤a.1))&&(decide (a.1 < (Int.ofNat (List.length p.2))))) then bif (Zcc (List.getD p.2 (Int.toNat a.1) (dflt (.sl Za))) a.2.1) then bif ((decide ((0:Int)≤b.2.1))&&(decide (b.2.1 < (Int.ofNat (List.length (Zam (List.getD p.2 (Int.toNat a.1) (dflt (.sl Za))) a.2.1)))))) then true else false else false else false else bif ((decide ((0:Int)≤a.1))&&(decide (a.1 < (Int.ofNat (List.length p.2))))) then bif (Zcc (List.getD p.2 (Int.toNat a.1) (dflt (.sl Za))) a.2.1) then bif ((decide ((0:Int)≤b.2.1))&&(decide (b.2.1 < (Int.ofNat (List.length (Zam (List.getD p.2 (Int.toNat a.1) (dflt (.sl Za))) a.2.1)))))) then true else false else false else false
theorem ZA5 (p:El Zc) (a:El Zb) (b:El Zb) (hk:Zd7 p a b=true):Goes (Ztb p a b) (Zre p a b) (Zed p a b):=Goes.brk hk (fun hk=>Goes.leaf) (fun hk=>Goes.brk hk (fun hk=>Goes.leaf) (fun hk=>Goes.brk hk (fun hk=>Goes.brk hk (fun hk=>Goes.leaf) (fun hk=>Goes.brk hk (fun hk=>Goes.brk hk (fun hk=>Goes.brk hk (fun hk=>Goes.leaf) (fun hk=>Goes.nok hk)) (fun hk=>Goes.nok hk)) (fun hk=>Goes.nok hk))) (fun hk=>Goes.brk hk (fun hk=>Goes.brk hk (fun hk=>Goes.brk hk (fun hk=>Goes.leaf) (fun hk=>Goes.nok hk)) (fun hk=>Goes.nok hk)) (fun hk=>Goes.nok hk))))
def ZiC:Bool→AV:=fun (r:Bool)=>.d .bool r
def ZcR (p:El Zc) (a:El Zb) (b:El Zb):Empty→Nat×St:=fun j=>nomatch j
theorem ZzK (p:El Zc) (a:El Zb) (b:El Zb) (L:Lt):entryA Go.Proofs.Tryz.prog (clOf Znb) ZkX Go.Proofs.Tryz.f53 ZiL L (toForms Zde (p,a,b,()))=(Zre p a b).run (fun v=>some (ZiC v,tps (toForms Zde (p,a,b,())))) fun j=>L (ZcR p a b j).1 (ZcR p a b j).2:=by kernel_rfl
theorem ZzG (p:El Zc) (a:El Zb) (b:El Zb):∀(L:Lt) (j:Empty),procOf (procsF Go.Proofs.Tryz.prog (clOf Znb) ZkX Go.Proofs.Tryz.f53 ZiL (toForms Zde (p,a,b,()))) (ZcR p a b j).1 L (ZcR p a b j).2=(Ztb p a b j).run (fun v=>some (ZiC v,tps (toForms Zde (p,a,b,())))) fun j=>L (ZcR p a b j).1 (ZcR p a b j).2:=fun L j=>nomatch j
noncomputable def Ztk:Run:=entG Zde ZiC (fun a=>Zd7 a.1 a.2.1 a.2.2.1) (fun a=>Zed a.1 a.2.1 a.2.2.1)
theorem ZAb:EntOK Go.Proofs.Tryz.prog 53 Ztk:=ZM (tb:=ZkX) (c:=ZiL) ZAp (by kernel_rfl) (by kernel_rfl) (by kernel_rfl) (fun a=>by kernel_rfl) fun ⟨p,a,b,_⟩ hk=>Zm (c:=ZiL) (K:=fun v=>(ZiC v,tps (toForms Zde (p,a,b,())))) (S:=ZcR p a b) (by kernel_rfl) (ZzK p a b) (ZzG p a b) (ZA5 p a b hk)
end
end Go.Ev
end

section
open Go Go.Ev
namespace Go.Ev
noncomputable section
def ZgV:Sig:=[(true,Zc),(false,(.sl Zb)),(false,(.int .i64))]
noncomputable def Zuz:Tbl:=[(52,Zw4),(53,Ztk)]
theorem ZFX:∀p∈Zuz,EntOK Go.Proofs.Tryz.prog p.1 p.2:=Zg ZD6 (Zg ZAb (Zu))
noncomputable def Zob:Code:=Go.Proofs.Tryz.f30.body.getD .skip
def Zrc:Tb:=[(8,⟨[1,2,3,7,8,9,95,105,147,156],[]⟩),(14,⟨[1,2,3,7,8,10,95,105,147,156],[]⟩),(19,⟨[1,2,3,7,8,10,11,95,105,147,156],[]⟩),(24,⟨[1,2,3,7,8,10,11,12,147,156],[]⟩),(31,⟨[1,2,7,8,13,147,156],[]⟩),(36,⟨[1,2,7,8,13,14],[]⟩)]
inductive Zk2 where | l8 (i:Int) (is:List Bool) | l14 (is:List Bool) (moved:Bool) | l19 (is:List Bool) (i:Int) (moved:Bool) | l24 (is:List Bool) (moved:Bool) (k:Int) (i:Int) | l31 (is:List Bool) (i:Int) (out:List Bool) | l36 (is:List Bool) (k:Int) (out:List Bool) (i:Int)
def ZaU (p:El Zc) (l:List (El Zb)) (a:Int):Zk2→JT Zk2 (List Bool) |.l8 i is=>.br (decide (i < (Int.ofNat (List.length l)))) (.br ((decide ((0:Int)≤a))&&(decide (a < (Int.ofNat (List.length l))))) (.br ((decide ((0:Int)≤i))&&(decide (i < (Int.ofNat (List.length l))))) (.br ((decide ((0:Int)≤i))&&(decide (i < (Int.ofNat (List.length is))))) (.jmp (.l8 (IntKind.i64.wrap (i+(1:Int))) (List.set is (Int.toNat i) (Zg2 (List.getD l (Int.toNat a) (dflt Zb)) (List.getD l (Int.toNat i) (dflt Zb)))))) (.no)) (.no)) (.no)) (.jmp (.l14 is true)) |.l14 is moved=>.br moved (.jmp (.l19 is (0:Int) false)) (.jmp (.l31 is (0:Int) (List.replicate (List.length l) false))) |.l19 is i moved=>.br (decide (i < (Int.ofNat (List.length l)))) (.jmp (.l24 is moved (0:Int) i)) (.jmp (.l14 is moved)) |.l24 is moved k i=>.br (decide (k < (Int.ofNat (List.length l)))) (.br ((decide ((0:Int)≤i))&&(decide (i < (Int.ofNat (List.length is))))) (.br (List.getD is (Int.toNat i) (dflt .bool)) (.br ((decide ((0:Int)≤k))&&(decide (k < (Int.ofNat (List.length is))))) (.br (! (List.getD is (Int.toNat k) (dflt .bool))) (.br ((decide ((0:Int)≤k))&&(decide (k < (Int.ofNat (List.length l))))) (.br ((decide ((0:Int)≤a))&&(decide (a < (Int.ofNat (List.length l))))) (.br ((List.getD l (Int.toNat k) (dflt Zb)).1 !=(List.getD l (Int.toNat a) (dflt Zb)).1) (.br ((decide ((0:Int)≤i))&&(decide (i < (Int.ofNat (List.length l))))) (.br ((decide ((0:Int)≤k))&&(decide (k < (Int.ofNat (List.length l))))) (.br (Zg2 (List.getD l (Int.toNat i) (dflt Zb)) (List.getD l (Int.toNat k) (dflt Zb))) (.br ((decide ((0:Int)≤k))&&(decide (k < (Int.ofNat (List.length is))))) (.jmp (.l24 (List.set is (Int.toNat k) true) true (IntKind.i64.wrap (k+(1:Int))) i)) (.no)) (.br ((decide ((0:Int)≤i))&&(decide (i < (Int.ofNat (List.length l))))) (.br ((decide ((0:Int)≤k))&&(decide (k < (Int.ofNat (List.length l))))) (.br (Zd7 p (List.getD l (Int.toNat i) (dflt Zb)) (List.getD l (Int.toNat k) (dflt Zb))) (.br (Zed p (List.getD l (Int.toNat i) (dflt Zb)) (List.getD l (Int.toNat k) (dflt Zb))) (.br ((decide ((0:Int)≤k))&&(decide (k < (Int.ofNat (List.length is))))) (.jmp (.l24 (List.set is (Int.toNat k) true) true (IntKind.i64.wrap (k+(1:Int))) i)) (.no)) (.jmp (.l24 is moved (IntKind.i64.wrap (k+(1:Int))) i))) (.no)) (.no)) (.no))) (.no)) (.no)) (.jmp (.l24 is moved (IntKind.i64.wrap (k+(1:Int))) i))) (.no)) (.no)) (.jmp (.l24 is moved (IntKind.i64.wrap (k+(1:Int))) i))) (.no)) (.jmp (.l19 is (IntKind.i64.wrap (i+(1:Int))) moved))) (.no)) (.jmp (.l19 is (IntKind.i64.wrap (i+(1:Int))) moved)) |.l31 is i out=>.br (decide (i < (Int.ofNat (List.length l)))) (.jmp (.l36 is (0:Int) out i)) (.leaf out) |.l36 is k out i=>.br (decide (k < (Int.ofNat (List.length l)))) (.br ((decide ((0:Int)≤i))&&(decide (i < (Int.ofNat (List.length l))))) (.br ((decide ((0:Int)≤a))&&(decide (a < (Int.ofNat (List.length l))))) (.br ((List.getD l (Int.toNat i) (dflt Zb)).1==(List.getD l (Int.toNat a) (dflt Zb)).1) (.br ((decide ((0:Int)≤i))&&(decide (i < (Int.ofNat (List.length out))))) (.br (List.getD out (Int.toNat i) (dflt .bool)) (.br ((decide ((0:Int)≤i))&&(decide (i < (Int.ofNat (List.length out))))) (.jmp (.l36 is (IntKind.i64.wrap (k+(1:Int))) (List.set out (Int.toNat i) true) i)) (.no)) (.br ((decide ((0:Int)≤k))&&(decide (k < (Int.ofNat (List.length is))))) (.br (List.getD is (Int.toNat k) (dflt .bool)) (.br ((decide ((0:Int)≤k))&&(decide (k < (Int.ofNat (List.length l))))) (.br ((decide ((0:Int)≤i))&&(decide (i < (Int.ofNat (List.length l))))) (.br ((decide ((0:Int)≤i))&&(decide (i < (Int.ofNat (List.length out))))) (.jmp (.l36 is (IntKind.i64.wrap (k+(1:Int))) (List.set out (Int.toNat i) (Zg2 (List.getD l (Int.toNat k) (dflt Zb)) (List.getD l (Int.toNat i) (dflt Zb)))) i)) (.no)) (.no)) (.no)) (.br ((decide ((0:Int)≤i))&&(decide (i < (Int.ofNat (List.length out))))) (.jmp (.l36 is (IntKind.i64.wrap (k+(1:Int))) (List.set out (Int.toNat i) false) i)) (.no))) (.no))) (.no)) (.jmp (.l31 is (IntKind.i64.wrap (i+(1:Int))) out))) (.no)) (.no)) (.jmp (.l31 is (IntKind.i64.wrap (i+(1:Int))) out))
def ZrP (p:El Zc) (l:List (El Zb)) (a:Int):JT Zk2 (List Bool):=.br ((((Int.ofNat (List.length l))==(Int.ofNat (List.length l)))&&(decide ((0:Int)≤(Int.ofNat (List.length l)))))&&(decide (((Int.ofNat (List.length l))*(1:Int))≤(limit:Int)))) (.br (decide (a < (0:Int))) (.leaf (List.replicate (List.length l) false)) (.br (decide (a≥(Int.ofNat (List.length l)))) (.leaf (List.replicate (List.length l) false)) (.br ((((Int.ofNat (List.length l))==(Int.ofNat (List.length l)))&&(decide ((0:Int)≤(Int.ofNat (List.length l)))))&&(decide (((Int.ofNat (List.length l))*(1:Int))≤(limit:Int)))) (.jmp (.l8 (0:Int) (List.replicate (List.length l) false))) (.no)))) (.no)
def ZpV:List Bool→AV:=fun (r:List Bool)=>.rw 4 .bool r
def Zgf (p:El Zc) (l:List (El Zb)) (a:Int):Zk2→Nat×St |.l8 i is=>(8,⟨mkTm 161 [(1,.d (.sl Zb) l),(2,.d (.int .i64) a),(3,.pt 4 0 0),(7,.own 8 0 none),(8,.own 9 0 none),(9,.d (.int .i64) i)],[(4,0,.box 26 [.d (.sl Zx) p.1,.d (.sl (.sl Za)) p.2] none),(8,0,.row 4 .bool (List.replicate (List.length l) false) false),(9,0,.row 4 .bool is false)]⟩) |.l14 is moved=>(14,⟨mkTm 161 [(1,.d (.sl Zb) l),(2,.d (.int .i64) a),(3,.pt 4 0 0),(7,.own 8 0 none),(8,.own 9 0 none),(10,.d .bool moved)],[(4,0,.box 26 [.d (.sl Zx) p.1,.d (.sl (.sl Za)) p.2] none),(8,0,.row 4 .bool (List.replicate (List.length l) false) false),(9,0,.row 4 .bool is false)]⟩) |.l19 is i moved=>(19,⟨mkTm 161 [(1,.d (.sl Zb) l),(2,.d (.int .i64) a),(3,.pt 4 0 0),(7,.own 8 0 none),(8,.own 9 0 none),(10,.d .bool moved),(11,.d (.int .i64) i)],[(4,0,.box 26 [.d (.sl Zx) p.1,.d (.sl (.sl Za)) p.2] none),(8,0,.row 4 .bool (List.replicate (List.length l) false) false),(9,0,.row 4 .bool is false)]⟩) |.l24 is moved k i=>(24,⟨mkTm 161 [(1,.d (.sl Zb) l),(2,.d (.int .i64) a),(3,.pt 4 0 0),(7,.own 8 0 none),(8,.own 9 0 none),(10,.d .bool moved),(11,.d (.int .i64) i),(12,.d (.int .i64) k)],[(4,0,.box 26 [.d (.sl Zx) p.1,.d (.sl (.sl Za)) p.2] none),(8,0,.row 4 .bool (List.replicate (List.length l) false) false),(9,0,.row 4 .bool is false)]⟩) |.l31 is i out=>(31,⟨mkTm 161 [(1,.d (.sl Zb) l),(2,.d (.int .i64) a),(7,.own 8 0 none),(8,.own 9 0 none),(13,.d (.int .i64) i)],[(8,0,.row 4 .bool out false),(9,0,.row 4 .bool is false)]⟩) |.l36 is k out i=>(36,⟨mkTm 161 [(1,.d (.sl Zb) l),(2,.d (.int .i64) a),(7,.own 8 0 none),(8,.own 9 0 none),(13,.d (.int .i64) i),(14,.d (.int .i64) k)],[(8,0,.row 4 .bool out false),(9,0,.row 4 .bool is false)]⟩)
theorem ZHC (p:El Zc) (l:List (El Zb)) (a:Int) (L:Lt):entryA Go.Proofs.Tryz.prog (clOf Zuz) Zrc Go.Proofs.Tryz.f30 Zob L (toForms ZgV (p,l,a,()))=(ZrP p l a).run (fun v=>some (ZpV v,tps (toForms ZgV (p,l,a,())))) fun j=>L (Zgf p l a j).1 (Zgf p l a j).2:=by kernel_rfl
theorem ZIv (p:El Zc) (l:List (El Zb)) (a:Int):∀(L:Lt) (j:Zk2),procOf (procsF Go.Proofs.Tryz.prog (clOf Zuz) Zrc Go.Proofs.Tryz.f30 Zob (toForms ZgV (p,l,a,()))) (Zgf p l a j).1 L (Zgf p l a j).2=(ZaU p l a j).run (fun v=>some (ZpV v,tps (toForms ZgV (p,l,a,())))) fun j=>L (Zgf p l a j).1 (Zgf p l a j).2 | L,.l8 i is=>by kernel_rfl | L,.l14 is moved=>by kernel_rfl | L,.l19 is i moved=>by kernel_rfl | L,.l24 is moved k i=>by kernel_rfl | L,.l31 is i out=>by kernel_rfl | L,.l36 is k out i=>by kernel_rfl
end
end Go.Ev
end

section
open Go
namespace Go.Ev
def roundL (N:Nat→Nat→Bool) (n:Nat) (r:List Bool):List Bool:=(List.range n).map fun j=>r.getD j false || (List.range n).any fun k=>r.getD k false&&N k j
def iterL (N:Nat→Nat→Bool) (n:Nat):Nat→List Bool→List Bool
 | 0,r=>r
 | m+1,r=>iterL N n m (roundL N n r)
def comeL (N:Nat→Nat→Bool) (A:Nat→Bool) (n:Nat):List Bool:=iterL N n n ((List.range n).map A)
theorem ZCV {n:Nat} {M:Nat→Bool} {j:Nat} :((List.range n).map M).getD j false=(decide (j < n)&&M j):=by
 rw[List.getD_eq_getElem?_getD,List.getElem?_map]
 by_cases h:j < n
 ·rw[List.getElem?_range h,decide_eq_true h];rfl
 ·rw[List.getElem?_eq_none (by simpa using h),decide_eq_false h];rfl
theorem ZkG {N:Nat→Nat→Bool} {n:Nat} {r:List Bool} {j:Nat} :(roundL N n r).getD j false=true↔j < n∧(r.getD j false=true∨∃k,k < n∧r.getD k false=true∧N k j=true):=by
 unfold roundL
 rw[ZCV]
 simp only[Bool.and_eq_true,decide_eq_true_eq,Bool.or_eq_true,List.any_eq_true,List.mem_range]
theorem ZCa {N:Nat→Nat→Bool} {A:Nat→Bool} {n:Nat} :∀(m:Nat) (r:List Bool),(∀j,r.getD j false=true→Come N A j)→∀j,(iterL N n m r).getD j false=true→Come N A j
 | 0,r,h,j,hj=>h j hj
 | m+1,r,h,j,hj=>ZCa m _ (fun j hj=>by
   obtain ⟨_,h1 | ⟨k,_,hk,hN⟩⟩:=ZkG.1 hj
   ·exact h j h1
   ·exact .step (h k hk) hN) j hj
def cnt (n:Nat) (r:List Bool):Nat:=card n fun j=>r.getD j false
theorem ZGy {n:Nat} {M M':Nat→Bool} (h:∀j,M j=true→M' j=true):card n M≤card n M':=List.countP_mono_left fun j _ hj=>h j hj
theorem ZOH {n:Nat} {M M':Nat→Bool} (h:∀j,M j=true→M' j=true) {i:Nat} (hi:i < n) (h1:M i=false) (h2:M' i=true):card n M+1≤card n M':=by
 rw[←Zmm h1 hi]
 refine ZGy fun j hj=>?_
 rw[Bool.or_eq_true] at hj
 rcases hj with hj | hj
 ·exact h j hj
 ·rw[beq_iff_eq] at hj;subst hj;exact h2
theorem ZM0 {n:Nat} {M:Nat→Bool} (h:n≤card n M):∀j,j < n→M j=true:=by
 intro j hj
 cases hM:M j with
 | true=>rfl
 | false=>
  have h1:=Zmm hM hj
  have:= @Zes n (fun k=>M k || (k==j))
  omega
def closedL (N:Nat→Nat→Bool) (n:Nat) (r:List Bool):Prop:=∀k j,k < n→j < n→r.getD k false=true→N k j=true→r.getD j false=true
theorem ZyW {N:Nat→Nat→Bool} {n:Nat} :∀(m:Nat) (r:List Bool),closedL N n r∨n≤cnt n r+m→(closedL N n (iterL N n m r))∧∀j,j < n→r.getD j false=true→(iterL N n m r).getD j false=true
 | 0,r,h=>by
  refine ⟨?_,fun j _ h=>h⟩
  rcases h with h | h
  ·exact h
  ·exact fun k j _ hj _ _=>ZM0 (M:=fun j=>r.getD j false) (by simpa[cnt] using h) j hj
 | m+1,r,h=>by
  have keep:∀j,j < n→r.getD j false=true→(roundL N n r).getD j false=true:=fun j hj h=>ZkG.2 ⟨hj,.inl h⟩
  have hrec:=ZyW m (roundL N n r) (by
   rcases h with h | h
   ·left
    intro k j hk hj h1 h2
    refine keep j hj ?_
    obtain ⟨_,h3 | ⟨q,hq,h3,h4⟩⟩:=ZkG.1 h1
    ·exact h k j hk hj h3 h2
    ·exact h k j hk hj (h q k hq hk h3 h4) h2
   ·by_cases hc:closedL N n (roundL N n r)
    ·exact .inl hc
    ·right
     have hnc:¬closedL N n r:=fun hc'=>hc (by
      intro k j hk hj h1 h2
      refine keep j hj ?_
      obtain ⟨_,h3 | ⟨q,hq,h3,h4⟩⟩:=ZkG.1 h1
      ·exact hc' k j hk hj h3 h2
      ·exact hc' k j hk hj (hc' q k hq hk h3 h4) h2)
     have ⟨k,j,hk,hj,h1,h2,h3⟩:∃k j,k < n∧j < n∧r.getD k false=true∧N k j=true∧r.getD j false=false:=by
      refine Classical.byContradiction fun hn=>hnc fun k j hk hj h1 h2=>?_
      cases hb:r.getD j false with
      | true=>rfl
      | false=>exact absurd ⟨k,j,hk,hj,h1,h2,hb⟩ hn
     have hlt:card n (fun j=>decide (j < n)&&r.getD j false)+1≤cnt n (roundL N n r):=ZOH (M':=fun j=>(roundL N n r).getD j false) (fun j hj'=>by
      rw[Bool.and_eq_true,decide_eq_true_eq] at hj'
      exact keep j hj'.1 hj'.2) hj (by rw[h3,Bool.and_false]) (ZkG.2 ⟨hj,.inr ⟨k,hk,h1,h2⟩⟩)
     have he:card n (fun j=>decide (j < n)&&r.getD j false)=cnt n r:=List.countP_congr fun j hj=>by
      have:=List.mem_range.1 hj
      simp[this]
     omega)
  exact ⟨hrec.1,fun j hj h1=>hrec.2 j hj (keep j hj h1)⟩
theorem ZE2 {N:Nat→Nat→Bool} {A:Nat→Bool} {n:Nat} (hA:∀j,A j=true→j < n) (hN:∀k j,N k j=true→j < n) (j:Nat):comeB N A j=(comeL N A n).getD j false:=by
 obtain ⟨hc,hk⟩:=ZyW (N:=N) (n:=n) n ((List.range n).map A) (.inr (Nat.le_add_left _ _))
 have hlt:∀m r j,r.length≤n→(iterL N n m r).getD j false=true→j < n:=by
  intro m
  induction m with
  | zero=>
   intro r j hr h
   have h:r.getD j false=true:=h
   rw[List.getD_eq_getElem?_getD] at h
   by_cases hj:j < r.length
   ·omega
   ·rw[List.getElem?_eq_none (by omega)] at h;cases h
  | succ m ih=>intro r j _ h;exact ih _ j (by simp[roundL]) h
 symm
 refine Zpy (M:=fun j=>(comeL N A n).getD j false) (fun j hj=>hk j (hA j hj) ?_) (fun k j h1 h2=>?_) (fun j hj=>?_) j
 ·rw[ZCV,decide_eq_true (hA j hj),hj];rfl
 ·exact hc k j (hlt n _ k (by simp) h1) (hN k j h2) h1 h2
 ·exact ZCa n _ (fun j hj=>by
   rw[ZCV,Bool.and_eq_true] at hj
   exact .start hj.2) j hj
end Go.Ev
end

section
open Go Go.Ev
namespace Go.Ev
noncomputable section
def ZdU:Sig:=[(true,Zb),(true,Zb)]
noncomputable def Zom:Tbl:=[]
theorem ZBJ:∀p∈Zom,EntOK Go.Proofs.Tryz.prog p.1 p.2:=Zu
noncomputable def Zkc:Code:=Go.Proofs.Tryz.f65.body.getD .skip
def Zna:Tb:=[]
def ZvQ (a:El Zb) (b:El Zb):Empty→JT Empty (Bool):=fun j=>nomatch j
def Ztm (a:El Zb) (b:El Zb):JT Empty (Bool):=.br (a.1 !=b.1) (.br (a.2.2.2.1==b.2.2.2.1) (.br a.2.2.2.2.1 (.leaf true) (.leaf b.2.2.2.2.1)) (.leaf false)) (.leaf false)
def ZfM (a:El Zb) (b:El Zb):Bool:=bif (a.1 !=b.1) then bif (a.2.2.2.1==b.2.2.2.1) then bif a.2.2.2.2.1 then true else b.2.2.2.2.1 else false else false
theorem ZFh (a:El Zb) (b:El Zb):Goes (ZvQ a b) (Ztm a b) (ZfM a b):=Goes.br (Goes.br (Goes.br (Goes.leaf) (Goes.leaf)) (Goes.leaf)) (Goes.leaf)
def ZjX:Bool→AV:=fun (r:Bool)=>.d .bool r
def Zdo (a:El Zb) (b:El Zb):Empty→Nat×St:=fun j=>nomatch j
theorem ZA1 (a:El Zb) (b:El Zb) (L:Lt):entryA Go.Proofs.Tryz.prog (clOf Zom) Zna Go.Proofs.Tryz.f65 Zkc L (toForms ZdU (a,b,()))=(Ztm a b).run (fun v=>some (ZjX v,tps (toForms ZdU (a,b,())))) fun j=>L (Zdo a b j).1 (Zdo a b j).2:=by kernel_rfl
theorem ZAS (a:El Zb) (b:El Zb):∀(L:Lt) (j:Empty),procOf (procsF Go.Proofs.Tryz.prog (clOf Zom) Zna Go.Proofs.Tryz.f65 Zkc (toForms ZdU (a,b,()))) (Zdo a b j).1 L (Zdo a b j).2=(ZvQ a b j).run (fun v=>some (ZjX v,tps (toForms ZdU (a,b,())))) fun j=>L (Zdo a b j).1 (Zdo a b j).2:=fun L j=>nomatch j
noncomputable def Zvm:Run:=entT ZdU ZjX (fun a=>ZfM a.1 a.2.1)
theorem ZBp:EntOK Go.Proofs.Tryz.prog 65 Zvm:=Zat (tb:=Zna) (c:=Zkc) ZBJ (by kernel_rfl) (by kernel_rfl) (by kernel_rfl) (fun a=>by kernel_rfl) fun ⟨a,b,_⟩=>Zm (c:=Zkc) (K:=fun v=>(ZjX v,tps (toForms ZdU (a,b,())))) (S:=Zdo a b) (by kernel_rfl) (ZA1 a b) (ZAS a b) (ZFh a b)
end
end Go.Ev
end

section
open Go
namespace Go.Ev
abbrev Acc:=El Zb
def accA (l:List Acc) (i:Nat):Acc:=l.getD i (dflt Zb)
def thA (l:List Acc) (i:Nat):Int:=(accA l i).1
def inA (l:List Acc) (i:Nat):Int:=(accA l i).2.1
def paA (l:List Acc) (i:Nat):Int:=(accA l i).2.2.1
def clB (l:List Acc) (i j:Nat):Bool:=ZfM (accA l i) (accA l j)
def thrOf (p:El Zc) (l:List Acc) (c:Nat):List (El Za):=p.2.getD (thA l c).toNat (dflt (.sl Za))
noncomputable def behB (p:El Zc) (l:List Acc) (c d:Nat):Bool:=
 decide (d < l.length)&&(thA l d==thA l c&&(d==c || ((inA l d==inA l c&&decide (paA l d > paA l c)) || (decide (0≤inA l d)&&fromB (thrOf p l c) (inA l c) (inA l d).toNat))))
theorem ZMM {p:El Zc} {l:List Acc} {c d:Nat} (h:behB p l c d=true):d < l.length∧thA l d=thA l c:=by
 unfold behB at h
 simp only[Bool.and_eq_true,decide_eq_true_eq,beq_iff_eq] at h
 exact ⟨h.1,h.2.1⟩
theorem ZIo {p:El Zc} {l:List Acc} {c:Nat} (h:c < l.length):behB p l c c=true:=by
 unfold behB
 simp[h]
theorem ZKM {t:List (El Za)} {i:Int} {j k:Nat} (h1:fromB t i j=true) (h2:fromB t (j:Int) k=true):fromB t i k=true:=by
 unfold fromB at*
 rw[ZdQ] at*
 induction h2 with
 | start h=>exact .step h1 h
 | step _ h ih=>exact .step ih h
theorem ZLz {p:El Zc} {l:List Acc} {c d e:Nat} (h1:behB p l c d=true) (h2:behB p l d e=true):behB p l c e=true:=by
 unfold behB at*
 have ht:thrOf p l d=thrOf p l c:=by
  simp only[Bool.and_eq_true,beq_iff_eq] at h1
  unfold thrOf
  rw[h1.2.1]
 rw[ht] at h2
 simp only[Bool.and_eq_true,Bool.or_eq_true,decide_eq_true_eq,beq_iff_eq] at*
 obtain ⟨a1,a2,a3⟩:=h1
 obtain ⟨b1,b2,b3⟩:=h2
 refine ⟨b1,b2.trans a2,?_⟩
 rcases a3 with rfl | a3
 ·exact b3
 rcases b3 with rfl | b3
 ·exact .inr a3
 right
 rcases a3 with ⟨a3,a4⟩ | ⟨a3,a4⟩
 ·rcases b3 with ⟨b3,b4⟩ | ⟨b3,b4⟩
  ·exact .inl ⟨b3.trans a3,by omega⟩
  ·right
   rw[a3] at b4
   exact ⟨b3,b4⟩
 ·right
  rcases b3 with ⟨b3,b4⟩ | ⟨b3,b4⟩
  ·rw[b3]
   exact ⟨a3,a4⟩
  ·refine ⟨b3,ZKM a4 ?_⟩
   rw[Int.toNat_of_nonneg a3]
   exact b4
noncomputable def chB (p:El Zc) (l:List Acc) (a i k:Nat):Bool:=decide (k < l.length)&&(!(thA l k==thA l a)&&(clB l i k || behB p l i k))
def chS (l:List Acc) (a k:Nat):Bool:=decide (k < l.length)&&clB l a k
noncomputable def isB (p:El Zc) (l:List Acc) (a k:Nat):Bool:=comeB (chB p l a) (chS l a) k
noncomputable def backB (p:El Zc) (l:List Acc) (a b:Nat):Bool:=thA l b==thA l a&&(List.range l.length).any fun k=>isB p l a k&&clB l k b
theorem ZN8 {l:List Acc} {i j:Nat} (h:clB l i j=true):thA l i≠thA l j:=by
 intro e
 unfold clB ZfM at h
 have:((accA l i).1 !=(accA l j).1)=false:=by
  show ((thA l i) !=(thA l j))=false
  rw[e];simp
 rw[this] at h
 cases h
theorem ZOR {p:El Zc} {l:List Acc} {a k:Nat} (h:isB p l a k=true):k < l.length∧thA l k≠thA l a:=by
 have h:=ZdQ.1 h
 cases h with
 | start h=>
  unfold chS at h
  simp only[Bool.and_eq_true,decide_eq_true_eq] at h
  exact ⟨h.1,fun e=>ZN8 h.2 e.symm⟩
 | step _ h=>
  unfold chB at h
  simp only[Bool.and_eq_true,decide_eq_true_eq,Bool.not_eq_true',beq_eq_false_iff_ne] at h
  exact ⟨h.1,h.2.1⟩
theorem ZOA {p:El Zc} {l:List Acc} {a:Nat} {C G:Nat→Bool} (hC:∀c,C c=true↔c < l.length∧thA l c≠thA l a∧(clB l a c=true∨∃k,G k=true∧clB l k c=true)) (hG:∀d,G d=true↔∃c,C c=true∧behB p l c d=true)
  (hs:∀d,G d=true→isB p l a d=true) (d:Nat):G d=isB p l a d:=by
 refine Zpy (fun j hj=>?_) (fun k j hk hj=>?_) (fun j hj=>ZdQ.1 (hs j hj)) d
 ·unfold chS at hj
  simp only[Bool.and_eq_true,decide_eq_true_eq] at hj
  exact (hG j).2 ⟨j,(hC j).2 ⟨hj.1,fun e=>ZN8 hj.2 e.symm,.inl hj.2⟩,ZIo hj.1⟩
 ·unfold chB at hj
  simp only[Bool.and_eq_true,decide_eq_true_eq,Bool.not_eq_true',beq_eq_false_iff_ne,Bool.or_eq_true] at hj
  obtain ⟨h1,h2,h3⟩:=hj
  rcases h3 with h3 | h3
  ·exact (hG j).2 ⟨j,(hC j).2 ⟨h1,h2,.inr ⟨k,hk,h3⟩⟩,ZIo h1⟩
  ·obtain ⟨c,hc,hb⟩:=(hG k).1 hk
   exact (hG j).2 ⟨c,hc,ZLz hb h3⟩
variable {s:Int×List (Int×Int)} {n:Nat} {M:Nat→Bool}
theorem SetOK.putO (h:SetOK s n M) (hn:n < 4611686018427387904) {j:Nat} (hj:j < n):(putS s (j:Int)).1=(!M j)∧SetOK (putS s (j:Int)).2 n (fun k=>M k || (k==j)):=by
 cases hb:M j with
 | false=>
  obtain ⟨p1,p2⟩:=h.put hn hj hb
  exact ⟨p1,p2⟩
 | true=>
  rw[h.put_no hn (i:=(j:Int)) fun hh=>by rw[Int.toNat_natCast,hb] at hh;cases hh.2.2]
  refine ⟨rfl,?_⟩
  rw[show (fun k=>M k || (k==j))=M from funext fun k=>by
   by_cases hk:k=j
   ·subst hk;rw[hb];rfl
   ·have:(k==j)=false:=by simp;omega
    rw[this,Bool.or_false]]
  exact h
theorem SetOK.congr' {M':Nat→Bool} (h:SetOK s n M) (e:∀j,M j=M' j):SetOK s n M':=by rwa[show M'=M from funext fun j=>(e j).symm]
def listR (n:Nat) (M:Nat→Bool) (h:Nat):List Int:=((List.range' h (n - h)).filter M).map Int.ofNat
theorem ZKN:listR n M 0=listOf n M:=by unfold listR listOf;rw[List.range_eq_range',Nat.sub_zero]
theorem ZMZ:listR n M n=[]:=by unfold listR;rw[Nat.sub_self];rfl
theorem ZCo {h:Nat} (hh:h < n):listR n M h=if M h=true then (h:Int) :: listR n M (h+1) else listR n M (h+1):=by
 unfold listR
 rw[show n - h=(n - (h+1))+1 by omega,List.range'_succ,List.filter_cons]
 split <;> rfl
end Go.Ev
end

section
namespace Go.Ev
open Go
theorem Zz9 {t:Nat} {a:El Zb} :∀ {l:List (El Za)} {k:Nat},a∈accT t k l↔∃(j:Nat) (i:El Za),l[j]? =some i∧a∈accI t (k+j) i
 | [],k=>by simp[accT]
 | i :: r,k=>by
  unfold accT
  rw[List.mem_append,Zz9 (l:=r)]
  constructor
  ·rintro (h | ⟨j,i',h1,h2⟩)
   ·exact ⟨0,i,rfl,h⟩
   ·exact ⟨j+1,i',by simpa using h1,by rw[show k+(j+1)=k+1+j by omega];exact h2⟩
  ·rintro ⟨j,i',h1,h2⟩
   cases j with
   | zero=>left;simp at h1;subst h1;exact h2
   | succ j=>right;exact ⟨j,i',by simpa using h1,by rw[show k+1+j=k+(j+1) by omega];exact h2⟩
theorem ZM2 {t k:Nat} {i:El Za} {a:El Zb} :a∈accI t k i↔((ZaI i).2=true∧a=((t:Int),((k:Int),((0:Int),((ZaI i).1.2.2.1,(false,Zak i))))))∨((ZaG i).2=true∧a=((t:Int),((k:Int),((if (ZaI i).2 then (1:Int) else 0),((ZaG i).1.2.2.1,(true,Zak i)))))):=by
 unfold accI
 rw[List.mem_append]
 cases (ZaI i).2 <;> cases (ZaG i).2 <;> simp
theorem Zv1 {t k:Nat} {i:El Za} {a:El Zb} (h:a∈accI t k i):(show Int from a.1)=(t:Int)∧(show Int from a.2.1)=(k:Int):=by
 rcases ZM2.1 h with ⟨_,rfl⟩ | ⟨_,rfl⟩ <;> exact ⟨rfl,rfl⟩
theorem ZyS {a:El Zb} :∀ {l:List (List (El Za))} {t:Nat},a∈accP t l↔∃(u:Nat) (x:List (El Za)) (j:Nat) (i:El Za),l[u]? =some x∧x[j]? =some i∧a∈accI (t+u) j i
 | [],t=>by simp[accP]
 | x :: r,t=>by
  unfold accP
  rw[List.mem_append,Zz9,ZyS (l:=r)]
  constructor
  ·rintro (⟨j,i,h1,h2⟩ | ⟨u,y,j,i,h1,h2,h3⟩)
   ·exact ⟨0,x,j,i,rfl,h1,by rw[Nat.zero_add] at h2;exact h2⟩
   ·exact ⟨u+1,y,j,i,by simpa using h1,h2,by rw[show t+(u+1)=t+1+u by omega];exact h3⟩
  ·rintro ⟨u,y,j,i,h1,h2,h3⟩
   cases u with
   | zero=>
    left
    simp at h1
    subst h1
    exact ⟨j,i,h2,by rw[Nat.zero_add];exact h3⟩
   | succ u=>right;exact ⟨u,y,j,i,by simpa using h1,h2,by rw[show t+1+u=t+(u+1) by omega];exact h3⟩
theorem ZFx {p:El Zc} {a:El Zb} (h:a∈ofC p):∃(u:Nat) (x:List (El Za)) (j:Nat) (i:El Za),p.2[u]? =some x∧x[j]? =some i∧a∈accI u j i∧(show Int from a.1)=(u:Int)∧(show Int from a.2.1)=(j:Int):=by
 unfold ofC at h
 split at h
 ·obtain ⟨u,x,j,i,h1,h2,h3⟩:=ZyS.1 h
  rw[Nat.zero_add] at h3
  exact ⟨u,x,j,i,h1,h2,h3,(Zv1 h3).1,(Zv1 h3).2⟩
 ·cases h
def ltNX (t k q t' k' q':Int):Prop:=t < t'∨t=t'∧(k < k'∨k=k'∧q < q')
def ltAX (a b:El Zb):Prop:=ltNX a.1 a.2.1 a.2.2.1 b.1 b.2.1 b.2.2.1
theorem ZL4 (t k:Nat) (i:El Za):(accI t k i).Pairwise ltAX:=by
 unfold accI
 cases (ZaI i).2 <;> cases (ZaG i).2 <;> simp[List.pairwise_cons]
 exact .inr ⟨rfl,.inr ⟨rfl,by show (0:Int) < 1;omega⟩⟩
theorem ZKA {t:Nat} {l:List (El Za)} {k:Nat} {a:El Zb} (h:a∈accT t k l):∃(j:Nat) (i:El Za),l[j]? =some i∧a∈accI t (k+j) i∧(show Int from a.1)=(t:Int)∧(show Int from a.2.1)=((k+j:Nat):Int):=by
 obtain ⟨j,i,h1,h2⟩:=Zz9.1 h
 exact ⟨j,i,h1,h2,Zv1 h2⟩
theorem ZFE (t:Nat):∀(k:Nat) (l:List (El Za)),(accT t k l).Pairwise ltAX
 | _,[]=>.nil
 | k,i :: r=>by
  unfold accT
  refine List.pairwise_append.2 ⟨ZL4 t k i,ZFE t (k+1) r,fun a ha b hb=>?_⟩
  obtain ⟨h1,h2⟩:=Zv1 ha
  obtain ⟨j,_,_,_,h3,h4⟩:=ZKA hb
  have key:∀a1 a2 a3 b1 b2 b3:Int,a1=t→a2=k→b1=t→b2=((k+1+j:Nat):Int)→ltNX a1 a2 a3 b1 b2 b3:=fun a1 a2 a3 b1 b2 b3 e1 e2 e3 e4=>.inr ⟨by omega,.inl (by omega)⟩
  exact key _ _ _ _ _ _ h1 h2 h3 h4
theorem ZHs:∀(t:Nat) (l:List (List (El Za))),(accP t l).Pairwise ltAX
 | _,[]=>.nil
 | t,x :: r=>by
  unfold accP
  refine List.pairwise_append.2 ⟨ZFE t 0 x,ZHs (t+1) r,fun a ha b hb=>?_⟩
  obtain ⟨_,_,_,_,h1,_⟩:=ZKA ha
  obtain ⟨u,_,_,_,_,_,hb3⟩:=ZyS.1 hb
  have h3:=(Zv1 hb3).1
  have key:∀a1 a2 a3 b1 b2 b3:Int,a1=t→b1=((t+1+u:Nat):Int)→ltNX a1 a2 a3 b1 b2 b3:=fun a1 a2 a3 b1 b2 b3 e1 e3=>.inl (by omega)
  exact key _ _ _ _ _ _ h1 h3
theorem ZLX (p:El Zc):(ofC p).Pairwise ltAX:=by
 unfold ofC
 split
 ·exact ZHs 0 p.2
 ·exact .nil
theorem Zsz {t:List (El Za)} (h:smallThread t=true):flowOK t=true:=by
 have labs:∀ {t:List (El Za)} {i:El Za},i∈t→i.2.2.2.2.2.2.length≤(labels t).length:=fun {t i} hi=>by
  unfold labels
  induction t with
  | nil=>cases hi
  | cons x r ih=>
   rw[List.flatMap_cons,List.length_append]
   rcases List.mem_cons.1 hi with rfl | hi
   ·omega
   ·have:=ih hi;omega
 unfold smallThread at h
 simp only[Bool.and_eq_true,List.all_eq_true,decide_eq_true_eq] at h
 unfold flowOK
 simp only[Bool.and_eq_true,List.all_eq_true,decide_eq_true_eq]
 refine ⟨h.1,fun i hi=>⟨(h.2.2 i hi).1,?_⟩⟩
 have:=labs hi
 omega
end Go.Ev
end

section
open Go
namespace Go.Ev
theorem Zum (l:List Acc) (i j:Nat):Zg2 (accA l i) (accA l j)=clB l i j:=rfl
theorem Zf3 {p:El Zc} (h:smallAll p=true) {i:Nat} (hi:i < (ofC p).length):
  0≤thA (ofC p) i∧thA (ofC p) i < (p.2.length:Int)∧flowOK (thrOf p (ofC p) i)=true∧0≤inA (ofC p) i∧inA (ofC p) i < ((thrOf p (ofC p) i).length:Int):=by
 have hA:=smallA h
 have hm:accA (ofC p) i∈ofC p:=by unfold accA;rw[ZH hi];exact List.getElem_mem hi
 obtain ⟨u,x,j,y,h1,h2,h3,h4,h5⟩:=ZFx hm
 have hth:thA (ofC p) i=(u:Int):=h4
 have hin:inA (ofC p) i=(j:Int):=h5
 have hu:=(List.getElem?_eq_some_iff.1 h1).1
 have hj:=(List.getElem?_eq_some_iff.1 h2).1
 have ht:thrOf p (ofC p) i=x:=by
  unfold thrOf
  rw[hth,Int.toNat_natCast,List.getD_eq_getElem?_getD,h1];rfl
 rw[ht]
 exact ⟨by omega,by omega,Zsz (hA.thr x (List.mem_of_getElem? h1)),by omega,by omega⟩
theorem ZOm {p:El Zc} {i k:Nat} (hi:i < (ofC p).length) (hk:k < (ofC p).length) (e:accA (ofC p) i=accA (ofC p) k):i=k:=by
 have ho:=List.pairwise_iff_getElem.1 (ZLX p)
 have gi:accA (ofC p) i=(ofC p)[i]:=by unfold accA;rw[ZH hi]
 have gk:accA (ofC p) k=(ofC p)[k]:=by unfold accA;rw[ZH hk]
 have irr:∀a:El Zb,¬ltAX a a:=fun a h=>by
  have:∀t k q:Int,¬ltNX t k q t k q:=fun t k q h=>by
   rcases h with h | ⟨_,h | ⟨_,h⟩⟩ <;> omega
  exact this _ _ _ h
 rw[gi,gk] at e
 by_cases h:i=k
 ·exact h
 ·exfalso
  by_cases hl:i < k
  ·have:=ho i k hi hk hl
   rw[e] at this
   exact irr _ this
  ·have:=ho k i hk hi (by omega)
   rw[←e] at this
   exact irr _ this
theorem ZKW {p:El Zc} (h:smallAll p=true) {i k:Nat} (hi:i < (ofC p).length) (hk:k < (ofC p).length):
  Zd7 p (accA (ofC p) i) (accA (ofC p) k)=true∧Zed p (accA (ofC p) i) (accA (ofC p) k)=behB p (ofC p) i k:=by
 obtain ⟨i0,i1,i2,i3,i4⟩:=Zf3 h hi
 obtain ⟨k0,k1,k2,k3,k4⟩:=Zf3 h hk
 have hinj:=fun e=>ZOm hi hk e
 have a1:(accA (ofC p) i).1=thA (ofC p) i:=rfl
 have a2:(accA (ofC p) i).2.1=inA (ofC p) i:=rfl
 have a3:(accA (ofC p) i).2.2.1=paA (ofC p) i:=rfl
 have b1:(accA (ofC p) k).1=thA (ofC p) k:=rfl
 have b2:(accA (ofC p) k).2.1=inA (ofC p) k:=rfl
 have b3:(accA (ofC p) k).2.2.1=paA (ofC p) k:=rfl
 have ht:List.getD p.2 (Int.toNat (thA (ofC p) i)) (dflt (.sl Za))=thrOf p (ofC p) i:=rfl
 have kf:Zcc (thrOf p (ofC p) i) (inA (ofC p) i)=true:=i2
 have vf:Zam (thrOf p (ofC p) i) (inA (ofC p) i)=rowOf (thrOf p (ofC p) i).length (fromB (thrOf p (ofC p) i) (inA (ofC p) i)):=rfl
 have htri:(decide ((0:Int)≤thA (ofC p) i)&&decide (thA (ofC p) i < Int.ofNat p.2.length))=true:=by
  rw[Bool.and_eq_true,decide_eq_true_eq,decide_eq_true_eq];exact ⟨i0,i1⟩
 unfold Zd7 Zed behB
 rw[decide_eq_true hk,Bool.true_and]
 simp only[a1,a2,a3,b1,b2,b3,ht,kf,vf,htri,cond_true,ZJ]
 by_cases e1:thA (ofC p) i=thA (ofC p) k
 ·have htk:thrOf p (ofC p) k=thrOf p (ofC p) i:=by unfold thrOf;rw[e1]
  rw[htk] at k4
  have hbr:(decide ((0:Int)≤inA (ofC p) k)&&decide (inA (ofC p) k < Int.ofNat (thrOf p (ofC p) i).length))=true:=by
   rw[Bool.and_eq_true,decide_eq_true_eq,decide_eq_true_eq];exact ⟨k3,k4⟩
  have hrow:List.getD (rowOf (thrOf p (ofC p) i).length (fromB (thrOf p (ofC p) i) (inA (ofC p) i))) (inA (ofC p) k).toNat (dflt .bool)=fromB (thrOf p (ofC p) i) (inA (ofC p) i) (inA (ofC p) k).toNat:=Zbs (by omega)
  have hb2:decide (inA (ofC p) k < Int.ofNat (thrOf p (ofC p) i).length)=true:=decide_eq_true k4
  simp only[hb2,hrow,cond_true,e1,bne_self_eq_false,beq_self_eq_true,cond_false,Bool.true_and,decide_eq_true k3]
  by_cases e2:k=i
  ·subst e2
   simp
  ·have hne:accA (ofC p) i≠accA (ofC p) k:=fun e=>e2 (hinj e).symm
   have hstr:((accA (ofC p) i).2.1==(accA (ofC p) k).2.1&&((accA (ofC p) i).2.2.1==(accA (ofC p) k).2.2.1&&((accA (ofC p) i).2.2.2.1==(accA (ofC p) k).2.2.2.1&&((accA (ofC p) i).2.2.2.2.1==(accA (ofC p) k).2.2.2.2.1&&(accA (ofC p) i).2.2.2.2.2==(accA (ofC p) k).2.2.2.2.2))))=false:=by
    rw[←Bool.not_eq_true]
    simp only[Bool.and_eq_true,beq_iff_eq]
    rintro ⟨h1,h2,h3,h4,h5⟩
    exact hne (Prod.ext e1 (Prod.ext h1 (Prod.ext h2 (Prod.ext h3 (Prod.ext h4 h5)))))
   rw[a2,a3,b2,b3] at hstr
   have e2b:(k==i)=false:=by simpa using e2
   simp only[hstr,e2b,cond_false,Bool.false_or]
   by_cases e3:inA (ofC p) i=inA (ofC p) k
   ·rw[e3]
    simp only[beq_self_eq_true,cond_true,Bool.true_and]
    cases hq:decide (paA (ofC p) k > paA (ofC p) i) <;> simp
   ·have e3b:(inA (ofC p) i==inA (ofC p) k)=false:=by simpa using e3
    have e3c:(inA (ofC p) k==inA (ofC p) i)=false:=by simpa using fun e=>e3 e.symm
    simp only[e3b,e3c,cond_false,Bool.false_and,Bool.false_or,and_self]
 ·have e1b:(thA (ofC p) i !=thA (ofC p) k)=true:=by simpa using e1
  have e1c:(thA (ofC p) k==thA (ofC p) i)=false:=by simpa using fun e=>e1 e.symm
  simp only[e1b,e1c,cond_true,Bool.false_and,and_self]
end Go.Ev
end

section
open Go
namespace Go.Ev
noncomputable def ZcE (p:El Zc) (l:List (El Zb)) (a:Int):List Bool:=rowOf l.length fun b=>decide (0≤a∧a < (l.length:Int))&&backB p l a.toNat b
def Ziu (p:El Zc) (l:List (El Zb)) (a:Int):Bool:=smallAll p&&same (.sl Zb) l (ofC p)
theorem ZNL {P:Nat→Bool} {k:Nat} :(List.range (k+1)).any P=((List.range k).any P || P k):=by
 rw[List.range_succ,List.any_append];simp
theorem ZJn (p:El Zc) (l:List (El Zb)) (a:Int) (hk:Ziu p l a=true):Goes (ZaU p l a) (ZrP p l a) (ZcE p l a):=by
 unfold Ziu at hk
 rw[Bool.and_eq_true] at hk
 obtain ⟨hs,hsame⟩:=hk
 have hl:=ZKj.1 hsame
 have hN:=ZLH hs
 rw[←hl] at hN
 have hfol:∀i k,i < l.length→k < l.length→Zd7 p (accA l i) (accA l k)=true∧Zed p (accA l i) (accA l k)=behB p l i k:=fun i k hi hk=>by
  rw[hl] at*
  exact ZKW hs hi hk
 have hmk:((((Int.ofNat (List.length l))==(Int.ofNat (List.length l)))&&(decide ((0:Int)≤(Int.ofNat (List.length l)))))&&(decide (((Int.ofNat (List.length l))*(1:Int))≤(limit:Int))))=true:=by
  simp[limit];omega
 obtain ⟨n,hn⟩:∃n,l.length=n:=⟨_,rfl⟩
 have none:¬(0≤a∧a < (n:Int))→List.replicate n false=ZcE p l a:=fun h=>by
  unfold ZcE
  rw[hn,ZnK]
  exact Z3 fun i _=>by rw[decide_eq_false h];rfl
 obtain ⟨T,hT⟩:∃T,T=ZaU p l a:=⟨_,rfl⟩
 rw[←hT]
 unfold ZrP
 rw[hn] at hN hfol hmk ⊢
 rw[Ze,if_pos hmk,Ze]
 by_cases h0:a < 0
 ·rw[if_pos (decide_eq_true h0),none (fun h=>by omega)];exact .leaf
 rw[if_neg (by simpa using h0),Ze]
 by_cases h1:a≥Int.ofNat n
 ·rw[if_pos (decide_eq_true h1),none (fun h=>by simp at h1;omega)];exact .leaf
 obtain ⟨a,rfl⟩:=Int.eq_ofNat_of_zero_le (show 0≤a by omega)
 have ha:a < n:=by simp at h1;omega
 rw[if_neg (by simpa using h1),Ze,if_pos hmk]
 have hval:ZcE p l (a:Int)=rowOf n (backB p l a):=by
  unfold ZcE
  rw[hn]
  exact Z3 fun i _=>by rw[decide_eq_true ⟨by omega,by omega⟩,Int.toNat_natCast];rfl
 rw[hval]
 have ea:List.getD l a (dflt Zb)=accA l a:=rfl
 have nn:(List.length l)=n:=hn
 have out:Goes T (.jmp (.l31 (rowOf n (isB p l a)) (0:Int) (List.replicate n false))) (rowOf n (backB p l a)):=by
  have outer:∀i,i≤n→Goes T (.jmp (.l31 (rowOf n (isB p l a)) (i:Int) (rowOf n fun j=>decide (j < i)&&backB p l a j))) (rowOf n (backB p l a)):=by
   refine down ?_ fun i hi ih=>?_
   ·rw[Zi,hT,ZaU,←hT,Ze,nn,if_neg (by simp)]
    rw[show (rowOf n fun j=>decide (j < n)&&backB p l a j)=rowOf n (backB p l a) from Z3 fun j hj=>by rw[decide_eq_true hj];rfl]
    exact .leaf
   ·have inner:∀k,k≤n→thA l i=thA l a→Goes T (.jmp (.l36 (rowOf n (isB p l a)) (k:Int) (rowOf n fun j=>if j=i then (List.range k).any (fun q=>isB p l a q&&clB l q i) else decide (j < i)&&backB p l a j) (i:Int))) (rowOf n (backB p l a)):=by
     refine down ?_ fun k hk ih2=>?_
     ·intro ht
      rw[Zi,hT,ZaU,←hT,Ze,nn,if_neg (by simp),Zr (by omega)]
      rw[show (rowOf n fun j=>if j=i then (List.range n).any (fun q=>isB p l a q&&clB l q i) else decide (j < i)&&backB p l a j)=(rowOf n fun j=>decide (j < i+1)&&backB p l a j) from Z3 fun j hj=>by
       by_cases e:j=i
       ·subst e
        rw[if_pos rfl,decide_eq_true (by omega),Bool.true_and]
        unfold backB
        rw[ht,beq_self_eq_true,Bool.true_and,hn]
       ·rw[if_neg e]
        by_cases e2:j < i
        ·rw[decide_eq_true e2,decide_eq_true (by omega)]
        ·rw[decide_eq_false e2,decide_eq_false (by omega)]]
      exact ih
     ·intro ht
      have hrow:∀M:Nat→Bool,List.getD (rowOf n M) i (dflt .bool)=M i:=fun M=>Zbs hi
      have hrk:List.getD (rowOf n (isB p l a)) k (dflt .bool)=isB p l a k:=Zbs hk
      have et:((accA l i).1==(accA l a).1)=true:=by show (thA l i==thA l a)=true;rw[ht];simp
      have ei:List.getD l i (dflt Zb)=accA l i:=rfl
      have ek:List.getD l k (dflt Zb)=accA l k:=rfl
      have lt1:∀ {x:Nat},x < n→decide ((x:Int) < Int.ofNat n)=true:=fun h=>decide_eq_true (by simpa using h)
      have key:∀b,b=((List.range (k+1)).any fun q=>isB p l a q&&clB l q i)→Goes T (.jmp (.l36 (rowOf n (isB p l a)) ((k+1:Nat):Int) ((rowOf n fun j=>if j=i then (List.range k).any (fun q=>isB p l a q&&clB l q i) else decide (j < i)&&backB p l a j).set i b) (i:Int))) (rowOf n (backB p l a)):=fun b hb=>by
       rw[ZzX,show (rowOf n fun j=>if j=i then b else if j=i then (List.range k).any (fun q=>isB p l a q&&clB l q i) else decide (j < i)&&backB p l a j)=(rowOf n fun j=>if j=i then (List.range (k+1)).any (fun q=>isB p l a q&&clB l q i) else decide (j < i)&&backB p l a j) from Z3 fun j _=>by
        by_cases e:j=i
        ·rw[if_pos e,if_pos e,hb]
        ·rw[if_neg e,if_neg e,if_neg e]]
       exact ih2 ht
      rw[ZNL] at key
      rw[Zi,hT,ZaU,←hT]
      simp only[Ze,nn,ZJ,lt1 hk,lt1 hi,lt1 ha,nng,Bool.and_self,if_true,Int.toNat_natCast,ei,ek,ea,et,hrow,hrk,Zum,Zr (k:=k) (by omega)]
      generalize hq:((List.range k).any fun q=>isB p l a q&&clB l q i)=q at*
      cases q with
      | true=>
       rw[if_pos rfl]
       exact key true (by simp)
      | false=>
       rw[if_neg (by decide)]
       cases hb:isB p l a k with
       | true=>
        rw[if_pos rfl]
        exact key _ (by rw[hb];simp)
       | false=>
        rw[if_neg (by decide)]
        exact key false (by rw[hb];simp)
    rw[Zi,hT,ZaU,←hT,Ze,nn,if_pos (decide_eq_true (by simpa using hi))]
    by_cases ht:thA l i=thA l a
    ·have:=inner 0 (Nat.zero_le _) ht
     rw[show (rowOf n fun j=>if j=i then (List.range 0).any (fun q=>isB p l a q&&clB l q i) else decide (j < i)&&backB p l a j)=(rowOf n fun j=>decide (j < i)&&backB p l a j) from Z3 fun j _=>by
      by_cases e:j=i
      ·subst e;simp
      ·rw[if_neg e]] at this
     exact this
    ·have lt1:∀ {x:Nat},x < n→decide ((x:Int) < Int.ofNat n)=true:=fun h=>decide_eq_true (by simpa using h)
     have et:((accA l i).1==(accA l a).1)=false:=by show (thA l i==thA l a)=false;simpa using ht
     have ei:List.getD l i (dflt Zb)=accA l i:=rfl
     have hlt0:decide ((0:Int) < Int.ofNat n)=true:=decide_eq_true (by simp;omega)
     rw[Zi,hT,ZaU,←hT]
     simp only[Ze,nn,hlt0,lt1 hi,lt1 ha,nng,Bool.and_self,if_true,Int.toNat_natCast,ei,ea,et,Bool.false_eq_true,if_false,Zr (k:=i) (by omega)]
     rw[show (rowOf n fun j=>decide (j < i)&&backB p l a j)=(rowOf n fun j=>decide (j < i+1)&&backB p l a j) from Z3 fun j _=>by
      by_cases e:j=i
      ·subst e
       have:backB p l a j=false:=by unfold backB;rw[show (thA l j==thA l a)=false by simpa using ht];rfl
       rw[this,Bool.and_false,Bool.and_false]
      ·by_cases e2:j < i
       ·rw[decide_eq_true e2,decide_eq_true (by omega)]
       ·rw[decide_eq_false e2,decide_eq_false (by omega)]]
     exact ih
  have:=outer 0 (Nat.zero_le _)
  rw[show (rowOf n fun j=>decide (j < 0)&&backB p l a j)=List.replicate n false from by
   rw[ZnK];exact Z3 fun j _=>by simp] at this
  exact this
 let OK:(Nat→Bool)→(Nat→Bool)→Bool→Prop:=fun M0 M moved=>(∀j,chS l a j=true→M j=true)∧(∀j,M j=true→Come (chB p l a) (chS l a) j)∧(moved=false→M=M0)∧(moved=true→card n M0 < card n M)
 have lt1:∀ {x:Nat},x < n→decide ((x:Int) < Int.ofNat n)=true:=fun h=>decide_eq_true (by simpa using h)
 have hMlt:∀ {M:Nat→Bool},(∀j,M j=true→Come (chB p l a) (chS l a) j)→∀j,M j=true→j < n:=fun h j hj=>by
  have:=ZOR (p:=p) (l:=l) (a:=a) (ZdQ.2 (h j hj))
  omega
 have loop:∀m,∀M:Nat→Bool,n - card n M=m→(∀j,chS l a j=true→M j=true)→(∀j,M j=true→Come (chB p l a) (chS l a) j)→Goes T (.jmp (.l14 (rowOf n M) true)) (rowOf n (backB p l a)):=by
  intro m
  induction m using Nat.strongRecOn with
  | _ m ih=>
  intro M0 hm hA hC
  have inner:∀i,i < n→∀Z:Prop,(∀M moved,OK M0 M moved→(moved=false→Z∧(M0 i=true→∀j,chB p l a i j=true→M0 j=true))→Goes T (.jmp (.l19 (rowOf n M) ((i+1:Nat):Int) moved)) (rowOf n (backB p l a)))→
    ∀k,k≤n→∀M moved,OK M0 M moved→(moved=false→Z∧∀x,x < k→M0 i=true→chB p l a i x=true→M0 x=true)→Goes T (.jmp (.l24 (rowOf n M) moved (k:Int) (i:Int))) (rowOf n (backB p l a)):=by
   intro i hi Z hz
   refine down ?_ fun k hk ih2=>?_
   ·intro M moved hok hcl
    rw[Zi,hT,ZaU,←hT,Ze,nn,if_neg (by simp),Zr (by omega)]
    refine hz M moved hok fun hm=>⟨(hcl hm).1,fun h1 j hj=>(hcl hm).2 j ?_ h1 hj⟩
    unfold chB at hj
    simp only[Bool.and_eq_true,decide_eq_true_eq] at hj
    omega
   ·intro M moved hok hcl
    obtain ⟨f1,f2⟩:=hfol i k hi hk
    have hri:List.getD (rowOf n M) i (dflt .bool)=M i:=Zbs hi
    have hrk:List.getD (rowOf n M) k (dflt .bool)=M k:=Zbs hk
    have ei:List.getD l i (dflt Zb)=accA l i:=rfl
    have ek:List.getD l k (dflt Zb)=accA l k:=rfl
    have tk:(accA l k).1=thA l k:=rfl
    have ta:(accA l a).1=thA l a:=rfl
    rw[Zi,hT,ZaU,←hT]
    simp only[Ze,nn,ZJ,lt1 hk,lt1 hi,lt1 ha,nng,Bool.and_self,if_true,Int.toNat_natCast,ei,ek,ea,hri,hrk,Zum,f1,f2,tk,ta,Zr (k:=k) (by omega),Zr (k:=i) (by omega)]
    cases hMi:M i with
    | false=>
     rw[if_neg (by decide)]
     refine hz M moved hok fun hm=>⟨(hcl hm).1,fun h1=>?_⟩
     rw[←hok.2.2.1 hm,hMi] at h1;cases h1
    | true=>
     rw[if_pos rfl]
     cases hMk:M k with
     | true=>
      rw[if_neg (by decide)]
      refine ih2 M moved hok fun hm=>⟨(hcl hm).1,fun x hx h1 h2=>?_⟩
      by_cases e:x=k
      ·subst e;rw[←hok.2.2.1 hm];exact hMk
      ·exact (hcl hm).2 x (by omega) h1 h2
     | false=>
      rw[if_pos (by decide)]
      have skip:chB p l a i k=false→Goes T (.jmp (.l24 (rowOf n M) moved ((k+1:Nat):Int) (i:Int))) (rowOf n (backB p l a)):=fun hc=>ih2 M moved hok fun hm=>⟨(hcl hm).1,fun x hx h1 h2=>by
       by_cases e:x=k
       ·subst e;rw[hc] at h2;cases h2
       ·exact (hcl hm).2 x (by omega) h1 h2⟩
      have set:chB p l a i k=true→Goes T (.jmp (.l24 ((rowOf n M).set k true) true ((k+1:Nat):Int) (i:Int))) (rowOf n (backB p l a)):=fun hc=>by
       have hca:=Zmm hMk hk
       rw[Zqx]
       refine ih2 _ true ⟨fun x hx=>(show (M x || (x==k))=true by rw[hok.1 x hx];rfl),fun x hx=>?_,fun h=>(by cases h),fun _=>?_⟩ (fun h=>by cases h)
       ·simp only[Bool.or_eq_true,beq_iff_eq] at hx
        rcases hx with hx | hx
        ·exact hok.2.1 x hx
        ·subst hx;exact .step (hok.2.1 i hMi) hc
       ·cases moved with
        | true=>have:=hok.2.2.2 rfl;omega
        | false=>rw[hok.2.2.1 rfl] at hca;rw[hok.2.2.1 rfl];omega
      have hce:chB p l a i k=(!(thA l k==thA l a)&&(clB l i k || behB p l i k)):=by unfold chB;rw[hn,decide_eq_true hk,Bool.true_and]
      by_cases c1:thA l k=thA l a
      ·rw[if_neg (by simp[c1])]
       exact skip (by rw[hce];simp[c1])
      ·rw[if_pos (by simpa using c1)]
       have c1b:(thA l k==thA l a)=false:=by simpa using c1
       rw[c1b] at hce
       cases c2:clB l i k with
       | true=>
        rw[if_pos rfl]
        exact set (by rw[hce,c2];rfl)
       | false=>
        rw[if_neg (by decide)]
        cases c3:behB p l i k with
        | true=>
         rw[if_pos rfl]
         exact set (by rw[hce,c2,c3];rfl)
        | false=>
         rw[if_neg (by decide)]
         exact skip (by rw[hce,c2,c3];rfl)
  have pass:∀i,i≤n→∀M moved,OK M0 M moved→(moved=false→∀i' j,i' < i→M0 i'=true→chB p l a i' j=true→M0 j=true)→Goes T (.jmp (.l19 (rowOf n M) (i:Int) moved)) (rowOf n (backB p l a)):=by
   refine down ?_ fun i hi ih2=>?_
   ·intro M moved hok hcl
    rw[Zi,hT,ZaU,←hT,Ze,nn,if_neg (by simp)]
    cases moved with
    | true=>
     have h1:=hok.2.2.2 rfl
     have h2:= @Zes n M
     exact ih (n - card n M) (by omega) M rfl hok.1 hok.2.1
    | false=>
     have e:=hok.2.2.1 rfl
     subst e
     rw[Zi,hT,ZaU,←hT,Ze,if_neg (by decide),nn]
     rw[show rowOf n M=rowOf n (isB p l a) from Z3 fun j _=>Zpy hok.1 (fun k j hk hj=>hcl rfl k j (hMlt hok.2.1 k hk) hk hj) hok.2.1 j]
     exact out
   ·intro M moved hok hcl
    rw[Zi,hT,ZaU,←hT,Ze,nn,if_pos (lt1 hi)]
    refine inner i hi (∀i' j,i' < i→M0 i'=true→chB p l a i' j=true→M0 j=true) (fun M' moved' hok' hcl'=>ih2 M' moved' hok' fun hm i' j hi' h1 hj=>?_) 0 (Nat.zero_le _) M moved hok (fun hm=>⟨hcl hm,fun x hx=>by omega⟩)
    by_cases e:i'=i
    ·subst e;exact (hcl' hm).2 h1 j hj
    ·exact (hcl' hm).1 i' j (by omega) h1 hj
  rw[Zi,hT,ZaU,←hT,Ze,if_pos rfl]
  exact pass 0 (Nat.zero_le _) M0 false ⟨hA,hC,fun _=>rfl,fun h=>by cases h⟩ fun _ i' j h=>by omega
 have start:∀i,i≤n→Goes T (.jmp (.l8 (i:Int) (rowOf n fun j=>decide (j < i)&&chS l a j))) (rowOf n (backB p l a)):=by
  refine down ?_ fun i hi ih=>?_
  ·rw[Zi,hT,ZaU,←hT,Ze,nn,if_neg (by simp)]
   rw[show (rowOf n fun j=>decide (j < n)&&chS l a j)=rowOf n (chS l a) from Z3 fun j hj=>by rw[decide_eq_true hj];rfl]
   exact loop _ (chS l a) rfl (fun j h=>h) (fun j h=>.start h)
  ·have ei:List.getD l i (dflt Zb)=accA l i:=rfl
   rw[Zi,hT,ZaU,←hT]
   simp only[Ze,nn,ZJ,lt1 hi,lt1 ha,nng,Bool.and_self,if_true,Int.toNat_natCast,ei,ea,Zum,Zr (k:=i) (by omega)]
   rw[ZzX,show (rowOf n fun j=>if j=i then clB l a i else decide (j < i)&&chS l a j)=(rowOf n fun j=>decide (j < i+1)&&chS l a j) from Z3 fun j hj=>by
    by_cases e:j=i
    ·subst e
     rw[if_pos rfl,decide_eq_true (by omega),Bool.true_and]
     unfold chS
     rw[hn,decide_eq_true hj,Bool.true_and]
    ·rw[if_neg e]
     by_cases e2:j < i
     ·rw[decide_eq_true e2,decide_eq_true (by omega)]
     ·rw[decide_eq_false e2,decide_eq_false (by omega)]]
   exact ih
 have:=start 0 (Nat.zero_le _)
 rw[show (rowOf n fun j=>decide (j < 0)&&chS l a j)=List.replicate n false from by
  rw[ZnK];exact Z3 fun j _=>by simp] at this
 exact this
end Go.Ev
end

section
open Go Go.Ev
namespace Go.Ev
noncomputable section
noncomputable def Zz5:Run:=entG ZgV ZpV (fun a=>Ziu a.1 a.2.1 a.2.2.1) (fun a=>ZcE a.1 a.2.1 a.2.2.1)
theorem ZGV:EntOK Go.Proofs.Tryz.prog 30 Zz5:=ZM (tb:=Zrc) (c:=Zob) ZFX (by kernel_rfl) (by kernel_rfl) (by kernel_rfl) (fun a=>by kernel_rfl) fun ⟨p,l,a,_⟩ hk=>Zm (c:=Zob) (K:=fun v=>(ZpV v,tps (toForms ZgV (p,l,a,())))) (S:=Zgf p l a) (by kernel_rfl) (ZHC p l a) (ZIv p l a) (ZJn p l a hk)
end
end Go.Ev
end

section
open Go Go.Ev
namespace Go.Ev
noncomputable section
def ZdV:Sig:=[(true,Zc)]
noncomputable def Zn9:Tbl:=[(28,Zq7),(29,Zup),(30,Zz5)]
theorem ZBa:∀p∈Zn9,EntOK Go.Proofs.Tryz.prog p.1 p.2:=Zg Zyf (Zg ZxM (Zg ZGV (Zu)))
noncomputable def ZjS:Code:=Go.Proofs.Tryz.f13.body.getD .skip
def Znt:Tb:=[(5,⟨[1,3,4,5],[(5,56)]⟩),(13,⟨[1,3,4,5,6,7],[(5,56)]⟩)]
inductive ZhG where | l5 (s:Int) (out:List (El Zd)) | l13 (behind:List Bool) (s:Int) (r:Int) (out:List (El Zd))
def ZbB (p:El Zc):ZhG→JT ZhG (List (El Zd)) |.l5 s out=>.br (decide (s < (Int.ofNat (List.length (Zs p))))) (.br ((decide ((0:Int)≤s))&&(decide (s < (Int.ofNat (List.length (Zs p)))))) (.br (! (List.getD (Zs p) (Int.toNat s) (dflt Zb)).2.2.2.2.1) (.jmp (.l5 (IntKind.i64.wrap (s+(1:Int))) out)) (.br ((decide ((0:Int)≤s))&&(decide (s < (Int.ofNat (List.length (Zs p)))))) (.br (List.getD (Zs p) (Int.toNat s) (dflt Zb)).2.2.2.2.2 (.jmp (.l5 (IntKind.i64.wrap (s+(1:Int))) out)) (.br ((decide ((0:Int)≤s))&&(decide (s < (Int.ofNat (List.length (Zs p)))))) (.br ((decide ((0:Int)≤(List.getD (Zs p) (Int.toNat s) (dflt Zb)).1))&&(decide ((List.getD (Zs p) (Int.toNat s) (dflt Zb)).1 < (Int.ofNat (List.length p.2))))) (.br ((decide ((0:Int)≤s))&&(decide (s < (Int.ofNat (List.length (Zs p)))))) (.br (Zcc (List.getD p.2 (Int.toNat (List.getD (Zs p) (Int.toNat s) (dflt Zb)).1) (dflt (.sl Za))) (List.getD (Zs p) (Int.toNat s) (dflt Zb)).2.1) (.jmp (.l13 (Zam (List.getD p.2 (Int.toNat (List.getD (Zs p) (Int.toNat s) (dflt Zb)).1) (dflt (.sl Za))) (List.getD (Zs p) (Int.toNat s) (dflt Zb)).2.1) s (0:Int) out)) (.no)) (.no)) (.no)) (.no))) (.no))) (.no)) (.leaf out) |.l13 behind s r out=>.br (decide (r < (Int.ofNat (List.length (Zs p))))) (.br ((decide ((0:Int)≤r))&&(decide (r < (Int.ofNat (List.length (Zs p)))))) (.br ((decide ((0:Int)≤s))&&(decide (s < (Int.ofNat (List.length (Zs p)))))) (.br ((List.getD (Zs p) (Int.toNat r) (dflt Zb)).1==(List.getD (Zs p) (Int.toNat s) (dflt Zb)).1) (.br ((decide ((0:Int)≤r))&&(decide (r < (Int.ofNat (List.length (Zs p)))))) (.br (! (List.getD (Zs p) (Int.toNat r) (dflt Zb)).2.2.2.2.1) (.br ((decide ((0:Int)≤r))&&(decide (r < (Int.ofNat (List.length (Zs p)))))) (.br (! (List.getD (Zs p) (Int.toNat r) (dflt Zb)).2.2.2.2.2) (.br ((decide ((0:Int)≤r))&&(decide (r < (Int.ofNat (List.length (Zs p)))))) (.br ((decide ((0:Int)≤(List.getD (Zs p) (Int.toNat r) (dflt Zb)).2.1))&&(decide ((List.getD (Zs p) (Int.toNat r) (dflt Zb)).2.1 < (Int.ofNat (List.length behind))))) (.br (List.getD behind (Int.toNat (List.getD (Zs p) (Int.toNat r) (dflt Zb)).2.1) (dflt .bool)) (.br (Ziu p (Zs p) r) (.br ((decide ((0:Int)≤s))&&(decide (s < (Int.ofNat (List.length (ZcE p (Zs p) r)))))) (.br (List.getD (ZcE p (Zs p) r) (Int.toNat s) (dflt .bool)) (.br ((decide ((0:Int)≤s))&&(decide (s < (Int.ofNat (List.length (Zs p)))))) (.br ((decide ((0:Int)≤s))&&(decide (s < (Int.ofNat (List.length (Zs p)))))) (.br ((decide ((0:Int)≤r))&&(decide (r < (Int.ofNat (List.length (Zs p)))))) (.br (Nat.ble (((List.length out)+1)*24) limit) (.jmp (.l13 behind s (IntKind.i64.wrap (r+(1:Int))) (out++[((List.getD (Zs p) (Int.toNat s) (dflt Zb)).1,((List.getD (Zs p) (Int.toNat s) (dflt Zb)).2.1,(List.getD (Zs p) (Int.toNat r) (dflt Zb)).2.1))]))) (.no)) (.no)) (.no)) (.no)) (.jmp (.l13 behind s (IntKind.i64.wrap (r+(1:Int))) out))) (.no)) (.no)) (.jmp (.l13 behind s (IntKind.i64.wrap (r+(1:Int))) out))) (.no)) (.no)) (.jmp (.l13 behind s (IntKind.i64.wrap (r+(1:Int))) out))) (.no)) (.jmp (.l13 behind s (IntKind.i64.wrap (r+(1:Int))) out))) (.no)) (.jmp (.l13 behind s (IntKind.i64.wrap (r+(1:Int))) out))) (.no)) (.no)) (.jmp (.l5 (IntKind.i64.wrap (s+(1:Int))) out))
def Zno (p:El Zc):JT ZhG (List (El Zd)):=.br (Zhs p) (.jmp (.l5 (0:Int) [])) (.no)
def Zko:List (El Zd)→AV:=fun (r:List (El Zd))=>.rw 35 Zd r
def ZdC (p:El Zc):ZhG→Nat×St |.l5 s out=>(5,⟨mkTm 116 [(1,.pt 2 0 0),(3,.own 4 0 none),(4,.own 5 0 none),(5,.d (.int .i64) s)],[(2,0,.box 26 [.d (.sl Zx) p.1,.d (.sl (.sl Za)) p.2] none),(4,0,.row 70 Zb (Zs p) false),(5,0,.row 35 Zd out false)]⟩) |.l13 behind s r out=>(13,⟨mkTm 116 [(1,.pt 2 0 0),(3,.own 4 0 none),(4,.own 5 0 none),(5,.d (.int .i64) s),(6,.own 7 0 none),(7,.d (.int .i64) r)],[(2,0,.box 26 [.d (.sl Zx) p.1,.d (.sl (.sl Za)) p.2] none),(4,0,.row 70 Zb (Zs p) false),(5,0,.row 35 Zd out false),(7,0,.row 4 .bool behind false)]⟩)
theorem ZA7 (p:El Zc) (L:Lt):entryA Go.Proofs.Tryz.prog (clOf Zn9) Znt Go.Proofs.Tryz.f13 ZjS L (toForms ZdV (p,()))=(Zno p).run (fun v=>some (Zko v,tps (toForms ZdV (p,())))) fun j=>L (ZdC p j).1 (ZdC p j).2:=by kernel_rfl
theorem ZAX (p:El Zc):∀(L:Lt) (j:ZhG),procOf (procsF Go.Proofs.Tryz.prog (clOf Zn9) Znt Go.Proofs.Tryz.f13 ZjS (toForms ZdV (p,()))) (ZdC p j).1 L (ZdC p j).2=(ZbB p j).run (fun v=>some (Zko v,tps (toForms ZdV (p,())))) fun j=>L (ZdC p j).1 (ZdC p j).2 | L,.l5 s out=>by kernel_rfl | L,.l13 behind s r out=>by kernel_rfl
end
end Go.Ev
end

section
open Go
namespace Go.Ev
def stB' (l:List Acc) (s:Nat):Bool:=(accA l s).2.2.2.2.1&& ! (accA l s).2.2.2.2.2
def ldB' (l:List Acc) (s:Nat):Bool:=! (accA l s).2.2.2.2.1&& ! (accA l s).2.2.2.2.2
noncomputable def delB (p:El Zc) (l:List Acc) (s r:Nat):Bool:=((thA l r==thA l s)&&ldB' l r)&&(fromB (thrOf p l s) (inA l s) (inA l r).toNat&&backB p l r s)
def delPair (l:List Acc) (s r:Nat):El Zd:=(thA l s,(inA l s,inA l r))
noncomputable def delS (p:El Zc) (l:List Acc) (s:Nat):List (El Zd):=if stB' l s then ((List.range' 0 l.length).filter fun r=>delB p l s r).map (delPair l s) else []
noncomputable def delsFrom (p:El Zc) (l:List Acc) (s:Nat):List (El Zd):=(List.range' s (l.length - s)).flatMap (delS p l)
noncomputable def ZA (p:El Zc):List (El Zd):=delsFrom p (ofC p) 0
def ZbZ (p:El Zc):Bool:=smallAll p&&decide ((ofC p).length < 1000000)
theorem ZKk (p:El Zc) (l:List Acc) (s:Nat):(delS p l s).length≤l.length:=by
 unfold delS
 split
 ·rw[List.length_map]
  have:=List.length_filter_le (fun r=>delB p l s r) (List.range' 0 l.length)
  rw[List.length_range'] at this
  exact this
 ·exact Nat.zero_le _
theorem ZDS (p:El Zc) (hk:ZbZ p=true):Goes (ZbB p) (Zno p) (ZA p):=by
 unfold ZbZ at hk
 rw[Bool.and_eq_true] at hk
 obtain ⟨hs,hN⟩:=hk
 have hN:=of_decide_eq_true hN
 have kt:Zhs p=true:=hs
 have vt:Zs p=ofC p:=rfl
 have facts:=fun i=>Zf3 (i:=i) hs
 have same_th:∀i k,thA (ofC p) k=thA (ofC p) i→thrOf p (ofC p) k=thrOf p (ofC p) i:=fun i k h=>by unfold thrOf;rw[h]
 have kb:∀r,Ziu p (ofC p) r=true:=fun r=>by unfold Ziu;rw[hs,ZKj.2 rfl];rfl
 have vb:∀r:Nat,r < (ofC p).length→ZcE p (ofC p) (r:Int)=rowOf (ofC p).length fun b=>backB p (ofC p) r b:=fun r hr=>by
  unfold ZcE
  rw[Int.toNat_natCast]
  exact Z3 fun i _=>by rw[decide_eq_true ⟨Int.natCast_nonneg r,Int.ofNat_lt.2 hr⟩,Bool.true_and]
 obtain ⟨l,hl⟩:∃l,ofC p=l:=⟨_,rfl⟩
 rw[hl] at hN vt facts kb vb same_th
 have outer:∀s,s≤l.length→∀out:List (El Zd),out.length≤s*l.length→Goes (ZbB p) (.jmp (.l5 (s:Int) out)) (out++delsFrom p l s):=by
  refine down ?_ fun s hsl ih=>?_
  ·intro out ho
   rw[Zi,ZbB,vt,Ze,if_neg (by rw[Zw (Nat.lt_irrefl _)];decide)]
   unfold delsFrom
   rw[Nat.sub_self]
   simp only[List.range'_zero,List.flatMap_nil,List.append_nil]
   exact .leaf
  ·intro out ho
   have e:delsFrom p l s=delS p l s++delsFrom p l (s+1):=by
    unfold delsFrom
    rw[show l.length - s=(l.length - (s+1))+1 by omega,List.range'_succ,List.flatMap_cons]
   have ga:List.getD l s (dflt Zb)=accA l s:=rfl
   have goon:∀o2,o2=out++delS p l s→Goes (ZbB p) (.jmp (.l5 (((s+1:Nat)):Int) o2)) (out++delsFrom p l s):=fun o2 ho2=>by
    have:=ih (out++delS p l s) (by
     rw[List.length_append]
     have:=ZKk p l s
     rw[Nat.add_mul];omega)
    rw[e,←List.append_assoc,ho2]
    exact this
   rw[Zi,ZbB,vt]
   simp only[Ze,ZR hsl,nng,Bool.and_self,if_true,Int.toNat_natCast,ga,Zr (k:=s) (by omega)]
   by_cases c1:(! (accA l s).2.2.2.2.1)=true
   ·rw[if_pos c1]
    refine goon out ?_
    unfold delS stB'
    rw[if_neg (by rw[Bool.not_eq_true'] at c1;rw[c1,Bool.false_and];exact Bool.false_ne_true),List.append_nil]
   rw[if_neg c1]
   by_cases c2:(accA l s).2.2.2.2.2=true
   ·rw[if_pos c2]
    refine goon out ?_
    unfold delS stB'
    rw[if_neg (by rw[c2];simp),List.append_nil]
   rw[if_neg c2]
   have hst:stB' l s=true:=by
    unfold stB'
    cases h1:(accA l s).2.2.2.2.1 <;> cases h2:(accA l s).2.2.2.2.2 <;> simp_all
   have hdel:delS p l s=((List.range' 0 l.length).filter fun r=>delB p l s r).map (delPair l s):=by unfold delS;rw[if_pos hst]
   obtain ⟨t0,t1,hf,i0,i1⟩:=facts s hsl
   have hth:(decide ((0:Int)≤(accA l s).1)&&decide ((accA l s).1 < Int.ofNat p.2.length))=true:=by
    rw[Bool.and_eq_true,decide_eq_true_eq,decide_eq_true_eq];exact ⟨t0,t1⟩
   have kf:Zcc (List.getD p.2 (Int.toNat (accA l s).1) (dflt (.sl Za))) (accA l s).2.1=true:=hf
   have vf:Zam (List.getD p.2 (Int.toNat (accA l s).1) (dflt (.sl Za))) (accA l s).2.1=rowOf (thrOf p l s).length (fromB (thrOf p l s) (inA l s)):=rfl
   rw[if_pos hth,if_pos kf,vf]
   have inner:∀r,r≤l.length→∀o2:List (El Zd),o2.length≤s*l.length+r→o2++((List.range' r (l.length - r)).filter fun r=>delB p l s r).map (delPair l s)=out++delS p l s→
     Goes (ZbB p) (.jmp (.l13 (rowOf (thrOf p l s).length (fromB (thrOf p l s) (inA l s))) (s:Int) (r:Int) o2)) (out++delsFrom p l s):=by
    refine down ?_ fun r hr ih2=>?_
    ·intro o2 ho2 he
     rw[Zi,ZbB,vt,Ze,if_neg (by rw[Zw (Nat.lt_irrefl _)];decide),Zr (by omega)]
     rw[Nat.sub_self] at he
     simp only[List.range'_zero,List.filter_nil,List.map_nil,List.append_nil] at he
     exact goon o2 he
    ·intro o2 ho2 he
     have hprod:s*l.length≤1000000*1000000:=Nat.mul_le_mul (by omega) (by omega)
     have b1:Nat.ble ((o2.length+1)*24) limit=true:=Nat.ble_eq_true_of_le (by unfold limit;omega)
     have gr:List.getD l r (dflt Zb)=accA l r:=rfl
     rw[show l.length - r=(l.length - (r+1))+1 by omega,List.range'_succ,List.filter_cons] at he
     have next:∀o3,delB p l s r=false→o3=o2→Goes (ZbB p) (.jmp (.l13 (rowOf (thrOf p l s).length (fromB (thrOf p l s) (inA l s))) (s:Int) ((r+1:Nat):Int) o3)) (out++delsFrom p l s):=fun o3 hd h3=>by
      subst h3
      rw[if_neg (by rw[hd];decide)] at he
      exact ih2 o3 (by omega) he
     rw[Zi,ZbB,vt]
     simp only[Ze,ZR hr,ZR hsl,nng,Bool.and_self,if_true,Int.toNat_natCast,ga,gr,b1,Zr (k:=r) (by omega)]
     by_cases d1:((accA l r).1==(accA l s).1)=true
     ·rw[if_pos d1]
      by_cases d2:(! (accA l r).2.2.2.2.1)=true
      ·rw[if_pos d2]
       by_cases d3:(! (accA l r).2.2.2.2.2)=true
       ·rw[if_pos d3]
        have eth:thA l r=thA l s:=by simpa[thA] using d1
        obtain ⟨_,_,_,j0,j1⟩:=facts r hr
        rw[same_th s r eth] at j1
        have hin:(decide ((0:Int)≤(accA l r).2.1)&&decide ((accA l r).2.1 < Int.ofNat (rowOf (thrOf p l s).length (fromB (thrOf p l s) (inA l s))).length))=true:=by
         rw[ZJ,Bool.and_eq_true,decide_eq_true_eq,decide_eq_true_eq];exact ⟨j0,j1⟩
        have hin':(inA l r).toNat < (thrOf p l s).length:=by omega
        have hg:List.getD (rowOf (thrOf p l s).length (fromB (thrOf p l s) (inA l s))) (Int.toNat (accA l r).2.1) (dflt .bool)=fromB (thrOf p l s) (inA l s) (inA l r).toNat:=Zbs hin'
        rw[if_pos hin,hg]
        have hld:ldB' l r=true:=by unfold ldB';rw[d2,d3];rfl
        have hdb:delB p l s r=(fromB (thrOf p l s) (inA l s) (inA l r).toNat&&backB p l r s):=by
         unfold delB
         rw[hld,show (thA l r==thA l s)=true from d1];rfl
        by_cases d4:fromB (thrOf p l s) (inA l s) (inA l r).toNat=true
        ·rw[if_pos d4,if_pos (kb (r:Int)),vb r hr,ZJ,Bool.true_and,if_pos (ZR hsl),Zbs hsl]
         by_cases d5:backB p l r s=true
         ·rw[if_pos d5]
          rw[if_pos (by rw[hdb,d4,d5];rfl)] at he
          exact ih2 _ (by simp;omega) (by rw[List.append_assoc];exact he)
         ·rw[if_neg d5]
          exact next _ (by rw[hdb];simp[d5]) rfl
        ·rw[if_neg d4]
         exact next _ (by rw[hdb];simp[d4]) rfl
       ·rw[if_neg d3]
        exact next _ (by unfold delB ldB';simp at d3;simp[d3]) rfl
      ·rw[if_neg d2]
       exact next _ (by unfold delB ldB';simp at d2;simp[d2]) rfl
     ·rw[if_neg d1]
      exact next _ (by unfold delB thA;simp at d1;simp[d1]) rfl
   exact inner 0 (Nat.zero_le _) out (by omega) (by rw[hdel];rfl)
 have:=outer 0 (Nat.zero_le _) [] (Nat.zero_le _)
 unfold Zno ZA
 rw[Ze,if_pos kt,hl]
 exact this
end Go.Ev
end

section
open Go Go.Ev
namespace Go.Ev
noncomputable section
noncomputable def Zv9:Run:=entG ZdV Zko (fun a=>ZbZ a.1) (fun a=>ZA a.1)
theorem ZBN:EntOK Go.Proofs.Tryz.prog 13 Zv9:=ZM (tb:=Znt) (c:=ZjS) ZBa (by kernel_rfl) (by kernel_rfl) (by kernel_rfl) (fun a=>by kernel_rfl) fun ⟨p,_⟩ hk=>Zm (c:=ZjS) (K:=fun v=>(Zko v,tps (toForms ZdV (p,())))) (S:=ZdC p) (by kernel_rfl) (ZA7 p) (ZAX p) (ZDS p hk)
end
end Go.Ev
end

section
open Go Go.Ev
namespace Go.Ev
noncomputable section
def Zkv:Sig:=[(false,(.sl (.int .i64))),(false,(.int .i64))]
noncomputable def ZAd:Tbl:=[]
theorem ZK9:∀p∈ZAd,EntOK Go.Proofs.Tryz.prog p.1 p.2:=Zu
noncomputable def ZvH:Code:=Go.Proofs.Tryz.f46.body.getD .skip
def ZwL:Tb:=[(3,⟨[0,1,5],[]⟩)]
inductive ZrU where | l3 (i:Int)
def ZrA (l:List Int) (n:Int):ZrU→JT ZrU (Bool) |.l3 i=>.br (decide (i < (Int.ofNat (List.length l)))) (.br ((decide ((0:Int)≤i))&&(decide (i < (Int.ofNat (List.length l))))) (.br ((List.getD l (Int.toNat i) (dflt (.int .i64)))==n) (.leaf true) (.jmp (.l3 (IntKind.i64.wrap (i+(1:Int)))))) (.no)) (.leaf false)
def Zwy (l:List Int) (n:Int):JT ZrU (Bool):=.jmp (.l3 (0:Int))
def ZuK:Bool→AV:=fun (r:Bool)=>.d .bool r
def Zlh (l:List Int) (n:Int):ZrU→Nat×St |.l3 i=>(3,⟨mkTm 18 [(0,.d (.sl (.int .i64)) l),(1,.d (.int .i64) n),(5,.d (.int .i64) i)],[]⟩)
theorem ZK1 (l:List Int) (n:Int) (L:Lt):entryA Go.Proofs.Tryz.prog (clOf ZAd) ZwL Go.Proofs.Tryz.f46 ZvH L (toForms Zkv (l,n,()))=(Zwy l n).run (fun v=>some (ZuK v,tps (toForms Zkv (l,n,())))) fun j=>L (Zlh l n j).1 (Zlh l n j).2:=by kernel_rfl
theorem ZK0 (l:List Int) (n:Int):∀(L:Lt) (j:ZrU),procOf (procsF Go.Proofs.Tryz.prog (clOf ZAd) ZwL Go.Proofs.Tryz.f46 ZvH (toForms Zkv (l,n,()))) (Zlh l n j).1 L (Zlh l n j).2=(ZrA l n j).run (fun v=>some (ZuK v,tps (toForms Zkv (l,n,())))) fun j=>L (Zlh l n j).1 (Zlh l n j).2 | L,.l3 i=>by kernel_rfl
end
end Go.Ev
end

section
open Go
namespace Go.Ev
def ZnT (l:List Int) (n:Int):Bool:=l.contains n
def ZqM (l:List Int) (n:Int):Bool:=decide (l.length < 4611686018427387904)
theorem ZL5 (l:List Int) (n:Int) (hk:ZqM l n=true):Goes (ZrA l n) (Zwy l n) (ZnT l n):=by
 have hn:l.length < 4611686018427387904:=of_decide_eq_true hk
 have loop:∀k,k≤l.length→Goes (ZrA l n) (.jmp (.l3 (k:Int))) ((l.drop k).contains n):=by
  refine down ?_ fun k hk ih=>?_
  ·rw[Zi]
   simp only[ZrA,Ze,Zw (Nat.lt_irrefl _),ZS,List.drop_length]
   simp
  ·rw[Zi]
   simp only[ZrA,Ze,ZR hk,nng,Bool.and_self,if_true,Int.toNat_natCast,ZH hk,Zr (k:=k) (by omega)]
   rw[ZO hk,List.contains_cons]
   cases h:(l[k]==n) with
   | true=>
    have:(n==l[k])=true:=by simp at h ⊢;exact h.symm
    rw[this];simp[ZS]
   | false=>
    have:(n==l[k])=false:=by simp at h ⊢;exact fun e=>h e.symm
    rw[this];simpa using ih
 unfold Zwy ZnT
 simpa using loop 0 (Nat.zero_le _)
end Go.Ev
end

section
open Go Go.Ev
namespace Go.Ev
noncomputable section
noncomputable def ZGW:Run:=entG Zkv ZuK (fun a=>ZqM a.1 a.2.1) (fun a=>ZnT a.1 a.2.1)
theorem ZKQ:EntOK Go.Proofs.Tryz.prog 46 ZGW:=ZM (tb:=ZwL) (c:=ZvH) ZK9 (by kernel_rfl) (by kernel_rfl) (by kernel_rfl) (fun a=>by kernel_rfl) fun ⟨l,n,_⟩ hk=>Zm (c:=ZvH) (K:=fun v=>(ZuK v,tps (toForms Zkv (l,n,())))) (S:=Zlh l n) (by kernel_rfl) (ZK1 l n) (ZK0 l n) (ZL5 l n hk)
end
end Go.Ev
end

section
open Go Go.Ev
namespace Go.Ev
noncomputable section
def Zfk:Sig:=[(true,Za)]
noncomputable def Zq4:Tbl:=[(74,Zce),(51,Zp5)]
theorem ZDq:∀p∈Zq4,EntOK Go.Proofs.Tryz.prog p.1 p.2:=Zg Zcs (Zg Ztq (Zu))
noncomputable def ZmA:Code:=Go.Proofs.Tryz.f47.body.getD .skip
def Zqd:Tb:=[]
def Zw6 (i:El Za):Empty→JT Empty (Bool):=fun j=>nomatch j
def Zvw (i:El Za):JT Empty (Bool):=.br (ZB i) (.br ((ZD i)==(0:Int)) (.br (i.1==(12:Int)) (.leaf true) (.br (Zah i) (.leaf (ZaA i)) (.no))) (.br (Zah i) (.leaf (ZaA i)) (.no))) (.no)
def ZgM (i:El Za):Bool:=bif (ZB i) then bif ((ZD i)==(0:Int)) then bif (i.1==(12:Int)) then true else bif (Zah i) then (ZaA i) else false else bif (Zah i) then (ZaA i) else false else false
def ZgP (i:El Za):Bool:=bif (ZB i) then bif ((ZD i)==(0:Int)) then bif (i.1==(12:Int)) then true else bif (Zah i) then true else false else bif (Zah i) then true else false else false
theorem ZFI (i:El Za) (hk:ZgP i=true):Goes (Zw6 i) (Zvw i) (ZgM i):=Goes.brk hk (fun hk=>Goes.brk hk (fun hk=>Goes.brk hk (fun hk=>Goes.leaf) (fun hk=>Goes.brk hk (fun hk=>Goes.leaf) (fun hk=>Goes.nok hk))) (fun hk=>Goes.brk hk (fun hk=>Goes.leaf) (fun hk=>Goes.nok hk))) (fun hk=>Goes.nok hk)
def ZlL:Bool→AV:=fun (r:Bool)=>.d .bool r
def Zfb (i:El Za):Empty→Nat×St:=fun j=>nomatch j
theorem ZC9 (i:El Za) (L:Lt):entryA Go.Proofs.Tryz.prog (clOf Zq4) Zqd Go.Proofs.Tryz.f47 ZmA L (toForms Zfk (i,()))=(Zvw i).run (fun v=>some (ZlL v,tps (toForms Zfk (i,())))) fun j=>L (Zfb i j).1 (Zfb i j).2:=by kernel_rfl
theorem ZCJ (i:El Za):∀(L:Lt) (j:Empty),procOf (procsF Go.Proofs.Tryz.prog (clOf Zq4) Zqd Go.Proofs.Tryz.f47 ZmA (toForms Zfk (i,()))) (Zfb i j).1 L (Zfb i j).2=(Zw6 i j).run (fun v=>some (ZlL v,tps (toForms Zfk (i,())))) fun j=>L (Zfb i j).1 (Zfb i j).2:=fun L j=>nomatch j
noncomputable def Zxa:Run:=entG Zfk ZlL (fun a=>ZgP a.1) (fun a=>ZgM a.1)
theorem ZCL:EntOK Go.Proofs.Tryz.prog 47 Zxa:=ZM (tb:=Zqd) (c:=ZmA) ZDq (by kernel_rfl) (by kernel_rfl) (by kernel_rfl) (fun a=>by kernel_rfl) fun ⟨i,_⟩ hk=>Zm (c:=ZmA) (K:=fun v=>(ZlL v,tps (toForms Zfk (i,())))) (S:=Zfb i) (by kernel_rfl) (ZC9 i) (ZCJ i) (ZFI i hk)
end
end Go.Ev
end

section
open Go Go.Ev
namespace Go.Ev
noncomputable section
def Zha:Sig:=[(true,(.sl Za)),(false,(.sl (.int .i64))),(false,(.int .i64))]
noncomputable def ZtD:Tbl:=[(45,Zuc),(46,ZGW),(47,Zxa)]
theorem ZH6:∀p∈ZtD,EntOK Go.Proofs.Tryz.prog p.1 p.2:=Zg ZwX (Zg ZKQ (Zg ZCL (Zu)))
noncomputable def Zn7:Code:=Go.Proofs.Tryz.f23.body.getD .skip
def ZrN:Tb:=[(4,⟨[1,3,7,8],[]⟩),(10,⟨[1,3,7,9],[]⟩),(15,⟨[1,3,7,9,10],[]⟩),(23,⟨[1,3,7,9,10,11,12],[]⟩)]
inductive ZkO where | l4 (i:Int) (is:List Bool) | l10 (is:List Bool) (moved:Bool) | l15 (is:List Bool) (k:Int) (moved:Bool) | l23 (is:List Bool) (k:Int) (more:List Bool) (moved:Bool) (j_:Int)
def ZaO (t:List (El Za)) (points:List Int) (s:Int):ZkO→JT ZkO (List Bool) |.l4 i is=>.br (decide (i < (Int.ofNat (List.length is)))) (.br ((decide ((0:Int)≤i))&&(decide (i < (Int.ofNat (List.length is))))) (.br (List.getD is (Int.toNat i) (dflt .bool)) (.br (ZqM points i) (.br ((decide ((0:Int)≤i))&&(decide (i < (Int.ofNat (List.length is))))) (.jmp (.l4 (IntKind.i64.wrap (i+(1:Int))) (List.set is (Int.toNat i) (! (ZnT points i))))) (.no)) (.no)) (.br ((decide ((0:Int)≤i))&&(decide (i < (Int.ofNat (List.length is))))) (.jmp (.l4 (IntKind.i64.wrap (i+(1:Int))) (List.set is (Int.toNat i) false))) (.no))) (.no)) (.jmp (.l10 is true)) |.l10 is moved=>.br moved (.jmp (.l15 is (0:Int) false)) (.leaf is) |.l15 is k moved=>.br (decide (k < (Int.ofNat (List.length is)))) (.br ((decide ((0:Int)≤k))&&(decide (k < (Int.ofNat (List.length is))))) (.br (! (List.getD is (Int.toNat k) (dflt .bool))) (.jmp (.l15 is (IntKind.i64.wrap (k+(1:Int))) moved)) (.br ((decide ((0:Int)≤k))&&(decide (k < (Int.ofNat (List.length t))))) (.br (ZgP (List.getD t (Int.toNat k) (dflt Za))) (.br (ZgM (List.getD t (Int.toNat k) (dflt Za))) (.jmp (.l15 is (IntKind.i64.wrap (k+(1:Int))) moved)) (.br (ZcS t k) (.jmp (.l23 is k (Za8 t k) moved (0:Int))) (.no))) (.no)) (.no))) (.no)) (.jmp (.l10 is moved)) |.l23 is k more moved j_=>.br (decide (j_ < (Int.ofNat (List.length is)))) (.br ((decide ((0:Int)≤j_))&&(decide (j_ < (Int.ofNat (List.length more))))) (.br (List.getD more (Int.toNat j_) (dflt .bool)) (.br ((decide ((0:Int)≤j_))&&(decide (j_ < (Int.ofNat (List.length is))))) (.br (! (List.getD is (Int.toNat j_) (dflt .bool))) (.br (ZqM points j_) (.br (! (ZnT points j_)) (.br ((decide ((0:Int)≤j_))&&(decide (j_ < (Int.ofNat (List.length is))))) (.jmp (.l23 (List.set is (Int.toNat j_) true) k more true (IntKind.i64.wrap (j_+(1:Int))))) (.no)) (.jmp (.l23 is k more moved (IntKind.i64.wrap (j_+(1:Int)))))) (.no)) (.jmp (.l23 is k more moved (IntKind.i64.wrap (j_+(1:Int)))))) (.no)) (.jmp (.l23 is k more moved (IntKind.i64.wrap (j_+(1:Int)))))) (.no)) (.jmp (.l15 is (IntKind.i64.wrap (k+(1:Int))) moved))
def ZqU (t:List (El Za)) (points:List Int) (s:Int):JT ZkO (List Bool):=.br (ZcS t s) (.jmp (.l4 (0:Int) (Za8 t s))) (.no)
def Zou:List Bool→AV:=fun (r:List Bool)=>.rw 4 .bool r
def Zgu (t:List (El Za)) (points:List Int) (s:Int):ZkO→Nat×St |.l4 i is=>(4,⟨mkTm 85 [(1,.d (.sl (.int .i64)) points),(3,.pt 4 0 0),(7,.own 8 0 none),(8,.d (.int .i64) i)],[(4,0,.box 33 [.d (.sl Za) t] none),(8,0,.row 4 .bool is false)]⟩) |.l10 is moved=>(10,⟨mkTm 85 [(1,.d (.sl (.int .i64)) points),(3,.pt 4 0 0),(7,.own 8 0 none),(9,.d .bool moved)],[(4,0,.box 33 [.d (.sl Za) t] none),(8,0,.row 4 .bool is false)]⟩) |.l15 is k moved=>(15,⟨mkTm 85 [(1,.d (.sl (.int .i64)) points),(3,.pt 4 0 0),(7,.own 8 0 none),(9,.d .bool moved),(10,.d (.int .i64) k)],[(4,0,.box 33 [.d (.sl Za) t] none),(8,0,.row 4 .bool is false)]⟩) |.l23 is k more moved j_=>(23,⟨mkTm 85 [(1,.d (.sl (.int .i64)) points),(3,.pt 4 0 0),(7,.own 8 0 none),(9,.d .bool moved),(10,.d (.int .i64) k),(11,.own 12 0 none),(12,.d (.int .i64) j_)],[(4,0,.box 33 [.d (.sl Za) t] none),(8,0,.row 4 .bool is false),(12,0,.row 4 .bool more false)]⟩)
theorem ZGH (t:List (El Za)) (points:List Int) (s:Int) (L:Lt):entryA Go.Proofs.Tryz.prog (clOf ZtD) ZrN Go.Proofs.Tryz.f23 Zn7 L (toForms Zha (t,points,s,()))=(ZqU t points s).run (fun v=>some (Zou v,tps (toForms Zha (t,points,s,())))) fun j=>L (Zgu t points s j).1 (Zgu t points s j).2:=by kernel_rfl
theorem ZHv (t:List (El Za)) (points:List Int) (s:Int):∀(L:Lt) (j:ZkO),procOf (procsF Go.Proofs.Tryz.prog (clOf ZtD) ZrN Go.Proofs.Tryz.f23 Zn7 (toForms Zha (t,points,s,()))) (Zgu t points s j).1 L (Zgu t points s j).2=(ZaO t points s j).run (fun v=>some (Zou v,tps (toForms Zha (t,points,s,())))) fun j=>L (Zgu t points s j).1 (Zgu t points s j).2 | L,.l4 i is=>by kernel_rfl | L,.l10 is moved=>by kernel_rfl | L,.l15 is k moved=>by kernel_rfl | L,.l23 is k more moved j_=>by kernel_rfl
end
end Go.Ev
end

section
open Go Go.Ev
namespace Go.Ev
noncomputable section
def ZgN:Sig:=[(true,Za)]
noncomputable def ZtY:Tbl:=[(83,Zgz),(58,ZrE)]
theorem ZGe:∀p∈ZtY,EntOK Go.Proofs.Tryz.prog p.1 p.2:=Zg Zhf (Zg ZvJ (Zu))
noncomputable def Zp3:Code:=Go.Proofs.Tryz.f89.body.getD .skip
def ZrY:Tb:=[]
def ZyH (i:El Za):Empty→JT Empty (Bool):=fun j=>nomatch j
def Zxz (i:El Za):JT Empty (Bool):=.br (ZP i) (.br ((Zz i)==(0:Int)) (.br (i.1==(12:Int)) (.leaf true) (.br (Zav i) (.leaf (Zak i)) (.no))) (.br (Zav i) (.leaf (Zak i)) (.no))) (.no)
def ZgH (i:El Za):Bool:=bif (ZP i) then bif ((Zz i)==(0:Int)) then bif (i.1==(12:Int)) then true else bif (Zav i) then (Zak i) else false else bif (Zav i) then (Zak i) else false else false
def ZeA (i:El Za):Bool:=bif (ZP i) then bif ((Zz i)==(0:Int)) then bif (i.1==(12:Int)) then true else bif (Zav i) then true else false else bif (Zav i) then true else false else false
theorem ZJ9 (i:El Za) (hk:ZeA i=true):Goes (ZyH i) (Zxz i) (ZgH i):=Goes.brk hk (fun hk=>Goes.brk hk (fun hk=>Goes.brk hk (fun hk=>Goes.leaf) (fun hk=>Goes.brk hk (fun hk=>Goes.leaf) (fun hk=>Goes.nok hk))) (fun hk=>Goes.brk hk (fun hk=>Goes.leaf) (fun hk=>Goes.nok hk))) (fun hk=>Goes.nok hk)
def Zpb:Bool→AV:=fun (r:Bool)=>.d .bool r
def Zge (i:El Za):Empty→Nat×St:=fun j=>nomatch j
theorem ZHc (i:El Za) (L:Lt):entryA Go.Proofs.Tryz.prog (clOf ZtY) ZrY Go.Proofs.Tryz.f89 Zp3 L (toForms ZgN (i,()))=(Zxz i).run (fun v=>some (Zpb v,tps (toForms ZgN (i,())))) fun j=>L (Zge i j).1 (Zge i j).2:=by kernel_rfl
theorem ZF9 (i:El Za):∀(L:Lt) (j:Empty),procOf (procsF Go.Proofs.Tryz.prog (clOf ZtY) ZrY Go.Proofs.Tryz.f89 Zp3 (toForms ZgN (i,()))) (Zge i j).1 L (Zge i j).2=(ZyH i j).run (fun v=>some (Zpb v,tps (toForms ZgN (i,())))) fun j=>L (Zge i j).1 (Zge i j).2:=fun L j=>nomatch j
noncomputable def ZyL:Run:=entG ZgN Zpb (fun a=>ZeA a.1) (fun a=>ZgH a.1)
theorem ZH2:EntOK Go.Proofs.Tryz.prog 89 ZyL:=ZM (tb:=ZrY) (c:=Zp3) ZGe (by kernel_rfl) (by kernel_rfl) (by kernel_rfl) (fun a=>by kernel_rfl) fun ⟨i,_⟩ hk=>Zm (c:=Zp3) (K:=fun v=>(Zpb v,tps (toForms ZgN (i,())))) (S:=Zge i) (by kernel_rfl) (ZHc i) (ZF9 i) (ZJ9 i hk)
end
end Go.Ev
end

section
open Go
namespace Go.Ev
theorem ZNw {i:El Za} (h:smallText i.2.2.2.2.2.1=true):ZeA i=true∧ZgP i=true:=by
 have h0:ZP i=true:=h
 have h1:ZB i=true:=h
 have a:Zav i=true:=by unfold Zav;simp only[h0,cond_true,Bool.cond_self]
 have b:Zah i=true:=by unfold Zah;simp only[h1,cond_true,Bool.cond_self]
 unfold ZeA ZgP
 simp only[h0,h1,a,b,cond_true,Bool.cond_self,and_self]
theorem ZMw {i:El Za} (h:smallText i.2.2.2.2.2.1=true):ZgM i=ZgH i:=by
 have h0:ZP i=true:=h
 have h1:ZB i=true:=h
 have a:Zav i=true:=by unfold Zav;simp only[h0,cond_true,Bool.cond_self]
 have b:Zah i=true:=by unfold Zah;simp only[h1,cond_true,Bool.cond_self]
 have c:ZaA i=Zak i:=by
  unfold ZaA Zak ZD
  simp only[h0,h1]
 unfold ZgM ZgH ZD
 simp only[h0,h1,a,b,c]
end Go.Ev
end

section
open Go
namespace Go.Ev
theorem ZOJ {i:El Za} (h:smallText i.2.2.2.2.2.1=true):ZeA i=true:=by
 have h0:ZP i=true:=h
 have a:Zav i=true:=by unfold Zav;simp only[h0,cond_true,Bool.cond_self]
 unfold ZeA
 simp only[h0,a,cond_true,Bool.cond_self]
end Go.Ev
end

section
open Go
namespace Go.Ev
def fenceAtT (t:List (El Za)) (k:Nat):Bool:=ZgH (t.getD k (dflt Za))
def stepB (t:List (El Za)) (points:List Int) (k j:Nat):Bool:=!fenceAtT t k&&(nextB t (k:Int) j&& !points.contains (j:Int))
def firstB (t:List (El Za)) (points:List Int) (s:Int) (j:Nat):Bool:=nextB t s j&& !points.contains (j:Int)
noncomputable def endsB (t:List (El Za)) (points:List Int) (s:Int) (j:Nat):Bool:=comeB (stepB t points) (firstB t points s) j
theorem ZEn {t:List (El Za)} {points:List Int} {k j:Nat} (h:stepB t points k j=true):j < t.length:=by
 unfold stepB at h
 simp only[Bool.and_eq_true] at h
 exact Zem h.2.1
theorem ZGF {t:List (El Za)} {points:List Int} {s:Int} {j:Nat} (h:firstB t points s j=true):j < t.length:=by
 unfold firstB at h
 simp only[Bool.and_eq_true] at h
 exact Zem h.1
end Go.Ev
end

section
open Go
namespace Go.Ev
noncomputable def Zal (t:List (El Za)) (points:List Int) (s:Int):List Bool:=rowOf t.length (endsB t points s)
def ZeI (t:List (El Za)) (points:List Int) (s:Int):Bool:=flowOK t&&decide (points.length < 4611686018427387904)
theorem ZJX (t:List (El Za)) (points:List Int) (s:Int) (hk:ZeI t points s=true):Goes (ZaO t points s) (ZqU t points s) (Zal t points s):=by
 unfold ZeI at hk
 rw[Bool.and_eq_true] at hk
 obtain ⟨hf,hpl⟩:=hk
 have hlen:=Zby hf
 have kIn:∀x,ZqM points x=true:=fun x=>hpl
 have vIn:∀x,ZnT points x=points.contains x:=fun x=>rfl
 generalize hn:t.length=n at hlen
 have kfe:∀k,k < n→ZgP (List.getD t k (dflt Za))=true∧ZgM (List.getD t k (dflt Za))=fenceAtT t k:=fun k hk=>by
  have hmem:t.getD k (dflt Za)∈t:=by rw[ZH (by omega)];exact List.getElem_mem (by omega)
  have hs:=ZoB hf hmem
  exact ⟨(ZNw hs).2,ZMw hs⟩
 let OK:(Nat→Bool)→(Nat→Bool)→Bool→Prop:=fun M0 M moved=>(∀j,firstB t points s j=true→M j=true)∧(∀j,M j=true→Come (stepB t points) (firstB t points s) j)∧(moved=false→M=M0)∧(moved=true→card n M0 < card n M)
 have hltM:∀ {M0 M moved},OK M0 M moved→∀j,M j=true→j < n:=fun h j hj=>by
  have:=ZC7 (n:=t.length) (fun j=>ZGF) (fun k j=>ZEn) (h.2.1 j hj)
  omega
 have loop:∀m,∀M:Nat→Bool,n - card n M=m→(∀j,firstB t points s j=true→M j=true)→(∀j,M j=true→Come (stepB t points) (firstB t points s) j)→Goes (ZaO t points s) (.jmp (.l10 (rowOf n M) true)) (Zal t points s):=by
  intro m
  induction m using Nat.strongRecOn with
  | _ m ih=>
  intro M0 hm hA hC
  have inner:∀k,k < n→fenceAtT t k=false→∀Z:Prop,(∀M moved,OK M0 M moved→(moved=false→Z∧∀j,stepB t points k j=true→M0 j=true)→Goes (ZaO t points s) (.jmp (.l15 (rowOf n M) ((k+1:Nat):Int) moved)) (Zal t points s))→
    ∀j,j≤n→∀M moved,M k=true→OK M0 M moved→(moved=false→Z∧∀x,x < j→stepB t points k x=true→M0 x=true)→Goes (ZaO t points s) (.jmp (.l23 (rowOf n M) (k:Int) (rowOf n (nextB t (k:Int))) moved (j:Int))) (Zal t points s):=by
   intro k hkn hfk Z hz
   have hst:∀x,stepB t points k x=(nextB t (k:Int) x&& !points.contains (x:Int)):=fun x=>by unfold stepB;rw[hfk];rfl
   refine down ?_ fun j hj ih2=>?_
   ·intro M moved hMk hok hcl
    rw[Zi,ZaO,Ze,ZJ,if_neg (by rw[Zw (Nat.lt_irrefl _)];decide),Zr (by omega)]
    exact hz M moved hok fun hm=>⟨(hcl hm).1,fun j hj=>(hcl hm).2 j (by have:=ZEn hj;omega) hj⟩
   ·intro M moved hMk hok hcl
    rw[Zi,ZaO,Ze,ZJ,if_pos (ZR hj),Ze,ZJ,if_pos (Zaq hj),Ze,Int.toNat_natCast,Zbs hj,Zr (by omega)]
    have skip:(stepB t points k j=true→moved=false→M0 j=true)→Goes (ZaO t points s) (.jmp (.l23 (rowOf n M) (k:Int) (rowOf n (nextB t (k:Int))) moved ((j+1:Nat):Int))) (Zal t points s):=fun hsk=>by
     refine ih2 M moved hMk hok fun hm=>⟨(hcl hm).1,fun x hx hxN=>?_⟩
     by_cases hxj:x=j
     ·subst hxj;exact hsk hxN hm
     ·exact (hcl hm).2 x (by omega) hxN
    by_cases hN:nextB t (k:Int) j=true
    ·rw[if_pos hN,Ze,if_pos (Zaq hj),Ze,Zbs hj]
     cases hMj:M j with
     | true=>
      rw[if_neg (by decide)]
      exact skip fun _ hm=>by rw[←hok.2.2.1 hm];exact hMj
     | false=>
      rw[if_pos (by decide),Ze,if_pos (kIn _),Ze,vIn]
      cases hpt:points.contains (j:Int) with
      | true=>
       rw[if_neg (by decide)]
       exact skip fun h _=>by rw[hst,hpt,Bool.not_true,Bool.and_false] at h;cases h
      | false=>
       rw[if_pos (by decide),Ze,if_pos (Zaq hj),Zqx]
       have hca:=Zmm hMj hj
       refine ih2 (fun x=>M x || (x==j)) true (by rw[hMk];rfl) ⟨fun x hx=>(show (M x || (x==j))=true by rw[hok.1 x hx];rfl),fun x hx=>?_,fun h=>(by cases h),fun _=>?_⟩ (fun h=>by cases h)
       ·simp only[Bool.or_eq_true,beq_iff_eq] at hx
        rcases hx with hx | hx
        ·exact hok.2.1 x hx
        ·subst hx;exact .step (hok.2.1 k hMk) (by rw[hst,hN,hpt];rfl)
       ·cases moved with
        | true=>have:=hok.2.2.2 rfl;omega
        | false=>rw[hok.2.2.1 rfl] at hca;rw[hok.2.2.1 rfl];omega
    ·rw[if_neg hN]
     exact skip fun h _=>by rw[hst] at h;simp only[Bool.and_eq_true] at h;exact absurd h.1 hN
  have pass:∀k,k≤n→∀M moved,OK M0 M moved→(moved=false→∀k' j,k' < k→M0 k'=true→stepB t points k' j=true→M0 j=true)→Goes (ZaO t points s) (.jmp (.l15 (rowOf n M) (k:Int) moved)) (Zal t points s):=by
   refine down ?_ fun k hkn ih2=>?_
   ·intro M moved hok hcl
    rw[Zi,ZaO,Ze,ZJ,if_neg (by rw[Zw (Nat.lt_irrefl _)];decide)]
    cases moved with
    | true=>
     have h1:=hok.2.2.2 rfl
     have h2:= @Zes n M
     exact ih (n - card n M) (by omega) M rfl hok.1 hok.2.1
    | false=>
     have e:=hok.2.2.1 rfl
     subst e
     rw[Zi,ZaO,Ze,if_neg (by decide)]
     have hv:rowOf n M=Zal t points s:=by
      unfold Zal endsB
      rw[hn]
      exact Z3 fun j _=>Zpy hok.1 (fun k j hk hj=>hcl rfl k j (hltM hok k hk) hk hj) hok.2.1 j
     rw[hv];exact .leaf
   ·intro M moved hok hcl
    rw[Zi,ZaO,Ze,ZJ,if_pos (ZR hkn),Ze,if_pos (Zaq hkn),Ze,Int.toNat_natCast,Zbs hkn]
    cases hMk:M k with
    | false=>
     rw[if_pos (by decide),Zr (by omega)]
     refine ih2 M moved hok fun hm k' j hk' hk1 hj=>?_
     by_cases e:k'=k
     ·subst e;rw[←hok.2.2.1 hm,hMk] at hk1;cases hk1
     ·exact hcl hm k' j (by omega) hk1 hj
    | true=>
     have kn:ZcS t (k:Int)=true:=hf
     obtain ⟨kf1,vf1⟩:=kfe k hkn
     rw[if_neg (by decide),Ze,hn,if_pos (Zaq hkn),Ze,if_pos kf1,Ze,vf1]
     cases hfk:fenceAtT t k with
     | true=>
      rw[if_pos rfl,Zr (by omega)]
      refine ih2 M moved hok fun hm k' j hk' hk1 hj=>?_
      by_cases e:k'=k
      ·subst e;unfold stepB at hj;rw[hfk] at hj;cases hj
      ·exact hcl hm k' j (by omega) hk1 hj
     | false=>
      rw[if_neg (by decide),Ze,if_pos kn]
      have hvn:Za8 t (k:Int)=rowOf n (nextB t (k:Int)):=by unfold Za8;rw[hn]
      rw[hvn]
      refine inner k hkn hfk (∀k' j,k' < k→M0 k'=true→stepB t points k' j=true→M0 j=true) (fun M' moved' hok' hcl'=>ih2 M' moved' hok' fun hm k' j hk' hk1 hj=>?_) 0 (Nat.zero_le _) M moved hMk hok (fun hm=>⟨hcl hm,fun x hx=>by omega⟩)
      by_cases e:k'=k
      ·subst e;exact (hcl' hm).2 j hj
      ·exact (hcl' hm).1 k' j (by omega) hk1 hj
  rw[Zi,ZaO,Ze,if_pos rfl]
  exact pass 0 (Nat.zero_le _) M0 false ⟨hA,hC,fun _=>rfl,fun h=>by cases h⟩ fun _ k' j h=>by omega
 have kn:ZcS t s=true:=hf
 unfold ZqU
 rw[Ze,if_pos kn]
 have hvn:Za8 t s=rowOf n fun j=>if j < 0 then firstB t points s j else nextB t s j:=by
  unfold Za8;rw[hn]
  exact Z3 fun j _=>by rw[if_neg (by omega)]
 rw[hvn]
 have first:∀k,k≤n→Goes (ZaO t points s) (.jmp (.l4 (k:Int) (rowOf n fun j=>if j < k then firstB t points s j else nextB t s j))) (Zal t points s):=by
  refine down ?_ fun k hkn ih=>?_
  ·rw[Zi,ZaO,Ze,ZJ,if_neg (by rw[Zw (Nat.lt_irrefl _)];decide)]
   rw[show (rowOf n fun j=>if j < n then firstB t points s j else nextB t s j)=rowOf n (firstB t points s) from Z3 fun j hj=>by rw[if_pos hj]]
   exact loop _ (firstB t points s) rfl (fun j h=>h) (fun j h=>.start h)
  ·have nx:∀b,b=firstB t points s k→Goes (ZaO t points s) (.jmp (.l4 ((k+1:Nat):Int) ((rowOf n fun j=>if j < k then firstB t points s j else nextB t s j).set k b))) (Zal t points s):=fun b hb=>by
    rw[ZzX]
    rw[show (rowOf n fun j=>if j=k then b else if j < k then firstB t points s j else nextB t s j)=rowOf n fun j=>if j < k+1 then firstB t points s j else nextB t s j from Z3 fun j _=>by
     by_cases h1:j=k
     ·subst h1;rw[if_pos rfl,if_pos (by omega),hb]
     ·rw[if_neg h1]
      by_cases h2:j < k
      ·rw[if_pos h2,if_pos (by omega)]
      ·rw[if_neg h2,if_neg (by omega)]]
    exact ih
   rw[Zi,ZaO,Ze,ZJ,if_pos (ZR hkn),Ze,if_pos (Zaq hkn),Ze,Int.toNat_natCast,Zbs hkn,if_neg (c:=k < k) (Nat.lt_irrefl k),Zr (by omega)]
   cases hN:nextB t s k with
   | true=>
    rw[if_pos rfl,Ze,if_pos (kIn _),Ze,if_pos (Zaq hkn),vIn]
    exact nx _ (by unfold firstB;rw[hN,Bool.true_and])
   | false=>
    rw[if_neg (by decide),Ze,if_pos (Zaq hkn)]
    exact nx false (by unfold firstB;rw[hN,Bool.false_and])
 exact first 0 (Nat.zero_le _)
end Go.Ev
end

section
open Go Go.Ev
namespace Go.Ev
noncomputable section
noncomputable def Zzj:Run:=entG Zha Zou (fun a=>ZeI a.1 a.2.1 a.2.2.1) (fun a=>Zal a.1 a.2.1 a.2.2.1)
theorem ZFz:EntOK Go.Proofs.Tryz.prog 23 Zzj:=ZM (tb:=ZrN) (c:=Zn7) ZH6 (by kernel_rfl) (by kernel_rfl) (by kernel_rfl) (fun a=>by kernel_rfl) fun ⟨t,points,s,_⟩ hk=>Zm (c:=Zn7) (K:=fun v=>(Zou v,tps (toForms Zha (t,points,s,())))) (S:=Zgu t points s) (by kernel_rfl) (ZGH t points s) (ZHv t points s) (ZJX t points s hk)
end
end Go.Ev
end

section
open Go Go.Ev
namespace Go.Ev
noncomputable section
def ZgY:Sig:=[(true,(.sl Za)),(false,(.sl (.int .i64))),(false,(.int .i64)),(false,(.int .i64))]
noncomputable def Zt0:Tbl:=[(23,Zzj)]
theorem ZGL:∀p∈Zt0,EntOK Go.Proofs.Tryz.prog p.1 p.2:=Zg ZFz (Zu)
noncomputable def ZoY:Code:=Go.Proofs.Tryz.f10.body.getD .skip
def Zq2:Tb:=[]
def ZAj (t:List (El Za)) (points:List Int) (s:Int) (l:Int):Empty→JT Empty (Bool):=fun j=>nomatch j
def Zxv (t:List (El Za)) (points:List Int) (s:Int) (l:Int):JT Empty (Bool):=.br (decide (l≥(0:Int))) (.br (decide (l < (Int.ofNat (List.length t)))) (.br (ZeI t points s) (.br ((decide ((0:Int)≤l))&&(decide (l < (Int.ofNat (List.length (Zal t points s)))))) (.leaf (List.getD (Zal t points s) (Int.toNat l) (dflt .bool))) (.no)) (.no)) (.leaf false)) (.leaf false)
def Zie (t:List (El Za)) (points:List Int) (s:Int) (l:Int):Bool:=bif (decide (l≥(0:Int))) then bif (decide (l < (Int.ofNat (List.length t)))) then bif (ZeI t points s) then bif ((decide ((0:Int)≤l))&&(decide (l < (Int.ofNat (List.length (Zal t points s)))))) then (List.getD (Zal t points s) (Int.toNat l) (dflt .bool)) else false else false else false else false
def Zis (t:List (El Za)) (points:List Int) (s:Int) (l:Int):Bool:=bif (decide (l≥(0:Int))) then bif (decide (l < (Int.ofNat (List.length t)))) then bif (ZeI t points s) then bif ((decide ((0:Int)≤l))&&(decide (l < (Int.ofNat (List.length (Zal t points s)))))) then true else false else false else true else true
theorem ZJb (t:List (El Za)) (points:List Int) (s:Int) (l:Int) (hk:Zis t points s l=true):Goes (ZAj t points s l) (Zxv t points s l) (Zie t points s l):=Goes.brk hk (fun hk=>Goes.brk hk (fun hk=>Goes.brk hk (fun hk=>Goes.brk hk (fun hk=>Goes.leaf) (fun hk=>Goes.nok hk)) (fun hk=>Goes.nok hk)) (fun hk=>Goes.leaf)) (fun hk=>Goes.leaf)
def Zpw:Bool→AV:=fun (r:Bool)=>.d .bool r
def ZgD (t:List (El Za)) (points:List Int) (s:Int) (l:Int):Empty→Nat×St:=fun j=>nomatch j
theorem ZIy (t:List (El Za)) (points:List Int) (s:Int) (l:Int) (L:Lt):entryA Go.Proofs.Tryz.prog (clOf Zt0) Zq2 Go.Proofs.Tryz.f10 ZoY L (toForms ZgY (t,points,s,l,()))=(Zxv t points s l).run (fun v=>some (Zpw v,tps (toForms ZgY (t,points,s,l,())))) fun j=>L (ZgD t points s l j).1 (ZgD t points s l j).2:=by kernel_rfl
theorem ZHK (t:List (El Za)) (points:List Int) (s:Int) (l:Int):∀(L:Lt) (j:Empty),procOf (procsF Go.Proofs.Tryz.prog (clOf Zt0) Zq2 Go.Proofs.Tryz.f10 ZoY (toForms ZgY (t,points,s,l,()))) (ZgD t points s l j).1 L (ZgD t points s l j).2=(ZAj t points s l j).run (fun v=>some (Zpw v,tps (toForms ZgY (t,points,s,l,())))) fun j=>L (ZgD t points s l j).1 (ZgD t points s l j).2:=fun L j=>nomatch j
noncomputable def Zy3:Run:=entG ZgY Zpw (fun a=>Zis a.1 a.2.1 a.2.2.1 a.2.2.2.1) (fun a=>Zie a.1 a.2.1 a.2.2.1 a.2.2.2.1)
theorem ZFH:EntOK Go.Proofs.Tryz.prog 10 Zy3:=ZM (tb:=Zq2) (c:=ZoY) ZGL (by kernel_rfl) (by kernel_rfl) (by kernel_rfl) (fun a=>by kernel_rfl) fun ⟨t,points,s,l,_⟩ hk=>Zm (c:=ZoY) (K:=fun v=>(Zpw v,tps (toForms ZgY (t,points,s,l,())))) (S:=ZgD t points s l) (by kernel_rfl) (ZIy t points s l) (ZHK t points s l) (ZJb t points s l hk)
end
end Go.Ev
end

section
open Go Go.Ev
namespace Go.Ev
noncomputable section
def Zhc:Sig:=[(true,Zc)]
noncomputable def ZtR:Tbl:=[(13,Zv9),(10,Zy3)]
theorem ZF5:∀p∈ZtR,EntOK Go.Proofs.Tryz.prog p.1 p.2:=Zg ZBN (Zg ZFH (Zu))
noncomputable def ZpM:Code:=Go.Proofs.Tryz.f6.body.getD .skip
def Zr1:Tb:=[(5,⟨[1,3,4,5],[(5,56)]⟩)]
inductive Zle where | l5 (i:Int) (out:List (El Zd))
def ZkJ (p:El Zc):Zle→JT Zle (List (El Zd)) |.l5 i out=>.br (decide (i < (Int.ofNat (List.length (ZA p))))) (.br ((decide ((0:Int)≤i))&&(decide (i < (Int.ofNat (List.length (ZA p)))))) (.br ((decide ((0:Int)≤(List.getD (ZA p) (Int.toNat i) (dflt Zd)).1))&&(decide ((List.getD (ZA p) (Int.toNat i) (dflt Zd)).1 < (Int.ofNat (List.length p.2))))) (.br ((decide ((0:Int)≤i))&&(decide (i < (Int.ofNat (List.length (ZA p)))))) (.br ((decide ((0:Int)≤i))&&(decide (i < (Int.ofNat (List.length (ZA p)))))) (.br (Zis (List.getD p.2 (Int.toNat (List.getD (ZA p) (Int.toNat i) (dflt Zd)).1) (dflt (.sl Za))) [] (List.getD (ZA p) (Int.toNat i) (dflt Zd)).2.1 (List.getD (ZA p) (Int.toNat i) (dflt Zd)).2.2) (.br (Zie (List.getD p.2 (Int.toNat (List.getD (ZA p) (Int.toNat i) (dflt Zd)).1) (dflt (.sl Za))) [] (List.getD (ZA p) (Int.toNat i) (dflt Zd)).2.1 (List.getD (ZA p) (Int.toNat i) (dflt Zd)).2.2) (.br ((decide ((0:Int)≤i))&&(decide (i < (Int.ofNat (List.length (ZA p)))))) (.br (Nat.ble (((List.length out)+1)*24) limit) (.jmp (.l5 (IntKind.i64.wrap (i+(1:Int))) (out++[(List.getD (ZA p) (Int.toNat i) (dflt Zd))]))) (.no)) (.no)) (.jmp (.l5 (IntKind.i64.wrap (i+(1:Int))) out))) (.no)) (.no)) (.no)) (.no)) (.no)) (.leaf out)
def ZqK (p:El Zc):JT Zle (List (El Zd)):=.br (ZbZ p) (.jmp (.l5 (0:Int) [])) (.no)
def ZoP:List (El Zd)→AV:=fun (r:List (El Zd))=>.rw 35 Zd r
def Zgm (p:El Zc):Zle→Nat×St |.l5 i out=>(5,⟨mkTm 42 [(1,.pt 2 0 0),(3,.own 4 0 none),(4,.own 5 0 none),(5,.d (.int .i64) i)],[(2,0,.box 26 [.d (.sl Zx) p.1,.d (.sl (.sl Za)) p.2] none),(4,0,.row 35 Zd (ZA p) false),(5,0,.row 35 Zd out false)]⟩)
theorem ZHf (p:El Zc) (L:Lt):entryA Go.Proofs.Tryz.prog (clOf ZtR) Zr1 Go.Proofs.Tryz.f6 ZpM L (toForms Zhc (p,()))=(ZqK p).run (fun v=>some (ZoP v,tps (toForms Zhc (p,())))) fun j=>L (Zgm p j).1 (Zgm p j).2:=by kernel_rfl
theorem ZGx (p:El Zc):∀(L:Lt) (j:Zle),procOf (procsF Go.Proofs.Tryz.prog (clOf ZtR) Zr1 Go.Proofs.Tryz.f6 ZpM (toForms Zhc (p,()))) (Zgm p j).1 L (Zgm p j).2=(ZkJ p j).run (fun v=>some (ZoP v,tps (toForms Zhc (p,())))) fun j=>L (Zgm p j).1 (Zgm p j).2 | L,.l5 i out=>by kernel_rfl
end
end Go.Ev
end

section
open Go
namespace Go.Ev
noncomputable def openR (p:El Zc) (x:El Zd):Bool:=Zie (List.getD p.2 (Int.toNat x.1) (dflt (.sl Za))) [] x.2.1 x.2.2
noncomputable def openRK (p:El Zc) (x:El Zd):Bool:=(decide ((0:Int)≤x.1)&&decide (x.1 < Int.ofNat (List.length p.2)))&&Zis (List.getD p.2 (Int.toNat x.1) (dflt (.sl Za))) [] x.2.1 x.2.2
noncomputable def Zan (p:El Zc):List (El Zd):=(ZA p).filter (openR p)
noncomputable def Ze9 (p:El Zc):Bool:=ZbZ p&&(decide ((ZA p).length < 10000000000)&&(ZA p).all (openRK p))
theorem ZJM (p:El Zc) (hk:Ze9 p=true):Goes (ZkJ p) (ZqK p) (Zan p):=by
 unfold Ze9 at hk
 rw[Bool.and_eq_true,Bool.and_eq_true] at hk
 obtain ⟨k1,k2,k3⟩:=hk
 have hN:=of_decide_eq_true k2
 unfold ZqK Zan
 rw[Ze,if_pos k1]
 obtain ⟨l,hl⟩:∃l,ZA p=l:=⟨_,rfl⟩
 rw[hl] at hN k3
 rw[hl]
 have loop:∀k,k≤l.length→∀out:List (El Zd),out.length≤k→Goes (ZkJ p) (.jmp (.l5 (k:Int) out)) (out++(l.drop k).filter (openR p)):=by
  refine down ?_ fun k hk ih=>?_
  ·intro out ho
   rw[Zi,ZkJ,hl,Ze,if_neg (by rw[Zw (Nat.lt_irrefl _)];decide),List.drop_length]
   simp only[List.filter_nil,List.append_nil]
   exact .leaf
  ·intro out ho
   have b1:Nat.ble ((out.length+1)*24) limit=true:=Nat.ble_eq_true_of_le (by unfold limit;omega)
   have hx:=List.all_eq_true.1 k3 l[k] (List.getElem_mem hk)
   unfold openRK at hx
   rw[Bool.and_eq_true] at hx
   rw[Zi,ZkJ,hl,ZO hk,List.filter_cons]
   simp only[Ze,ZR hk,nng,Bool.and_self,if_true,Int.toNat_natCast,ZH hk,b1,Zr (k:=k) (by omega)]
   rw[if_pos hx.1,if_pos hx.2]
   by_cases c:openR p l[k]=true
   ·have c':=c
    unfold openR at c'
    rw[if_pos c',if_pos c]
    have:=ih (out++[l[k]]) (by simp;omega)
    rw[List.append_assoc] at this
    exact this
   ·have c':=c
    unfold openR at c'
    rw[if_neg c',if_neg c]
    exact ih out (by omega)
 have:=loop 0 (Nat.zero_le _) [] (Nat.zero_le _)
 rw[List.nil_append,List.drop_zero] at this
 exact this
end Go.Ev
end

section
open Go Go.Ev
namespace Go.Ev
noncomputable section
noncomputable def ZzH:Run:=entG Zhc ZoP (fun a=>Ze9 a.1) (fun a=>Zan a.1)
theorem ZG1:EntOK Go.Proofs.Tryz.prog 6 ZzH:=ZM (tb:=Zr1) (c:=ZpM) ZF5 (by kernel_rfl) (by kernel_rfl) (by kernel_rfl) (fun a=>by kernel_rfl) fun ⟨p,_⟩ hk=>Zm (c:=ZpM) (K:=fun v=>(ZoP v,tps (toForms Zhc (p,())))) (S:=Zgm p) (by kernel_rfl) (ZHf p) (ZGx p) (ZJM p hk)
end
end Go.Ev
end

section
open Go Go.Ev
namespace Go.Ev
noncomputable section
def Zef:Sig:=[(true,(.sl Za))]
noncomputable def ZpS:Tbl:=[]
theorem ZBl:∀p∈ZpS,EntOK Go.Proofs.Tryz.prog p.1 p.2:=Zu
noncomputable def Zj7:Code:=Go.Proofs.Tryz.f82.body.getD .skip
def ZnF:Tb:=[(4,⟨[3,7,8,9],[]⟩)]
inductive ZhC where | l4 (n:Int) (h:Int)
def Zh0 (t:List (El Za)):ZhC→JT ZhC (Int) |.l4 n h=>.br (decide (h < (Int.ofNat (List.length t)))) (.br ((decide ((0:Int)≤h))&&(decide (h < (Int.ofNat (List.length t))))) (.br ((List.getD t (Int.toNat h) (dflt Za)).1 !=(12:Int)) (.jmp (.l4 (IntKind.i64.wrap (n+(1:Int))) (IntKind.i64.wrap (h+(1:Int))))) (.jmp (.l4 n (IntKind.i64.wrap (h+(1:Int)))))) (.no)) (.leaf n)
def Zm2 (t:List (El Za)):JT ZhC (Int):=.jmp (.l4 (0:Int) (0:Int))
def Zkf:Int→AV:=fun (r:Int)=>.d (.int .i64) r
def Zdu (t:List (El Za)):ZhC→Nat×St |.l4 n h=>(4,⟨mkTm 20 [(3,.d (.int .i64) n),(7,.d (.sl Za) t),(8,.d (.int .i64) (Int.ofNat (List.length t))),(9,.d (.int .i64) h)],[]⟩)
theorem ZBf (t:List (El Za)) (L:Lt):entryA Go.Proofs.Tryz.prog (clOf ZpS) ZnF Go.Proofs.Tryz.f82 Zj7 L (toForms Zef (t,()))=(Zm2 t).run (fun v=>some (Zkf v,tps (toForms Zef (t,())))) fun j=>L (Zdu t j).1 (Zdu t j).2:=by kernel_rfl
theorem ZBC (t:List (El Za)):∀(L:Lt) (j:ZhC),procOf (procsF Go.Proofs.Tryz.prog (clOf ZpS) ZnF Go.Proofs.Tryz.f82 Zj7 (toForms Zef (t,()))) (Zdu t j).1 L (Zdu t j).2=(Zh0 t j).run (fun v=>some (Zkf v,tps (toForms Zef (t,())))) fun j=>L (Zdu t j).1 (Zdu t j).2 | L,.l4 n h=>by kernel_rfl
end
end Go.Ev
end

section
open Go
namespace Go.Ev
def ZhF (t:List (El Za)):Int:=(countM t:Int)
def ZjG (t:List (El Za)):Bool:=decide (t.length < 1099511627776)
theorem ZDA (t:List (El Za)) (hk:ZjG t=true):Goes (Zh0 t) (Zm2 t) (ZhF t):=by
 have hn:t.length < 1099511627776:=of_decide_eq_true hk
 have loop:∀k,k≤t.length→∀n:Nat,n≤k→Goes (Zh0 t) (.jmp (.l4 (n:Int) (k:Int))) ((n+countM (t.drop k):Nat):Int):=by
  refine down ?_ fun k hk ih=>?_
  ·intro n hnk
   rw[Zi]
   simp only[Zh0,Ze,Zw (Nat.lt_irrefl _),ZS,List.drop_length]
   simp[countM]
  ·intro n hnk
   rw[Zi]
   simp only[Zh0,Ze,ZR hk,nng,Bool.and_self,if_true,Int.toNat_natCast,ZH hk,Zr (k:=k) (by omega),Zr (k:=n) (by omega)]
   rw[ZO hk]
   unfold countM
   rw[List.filter_cons]
   split
   ·rename_i h
    have:=ih (n+1) (by omega)
    unfold countM at this
    rw[List.length_cons,show n+((List.filter (fun i=>i.1 !=(12:Int)) (List.drop (k+1) t)).length+1)=n+1+(List.filter (fun i=>i.1 !=(12:Int)) (List.drop (k+1) t)).length by omega]
    exact this
   ·exact ih n (by omega)
 have:=loop 0 (Nat.zero_le _) 0 (Nat.le_refl _)
 unfold Zm2 ZhF
 simpa using this
end Go.Ev
end

section
open Go Go.Ev
namespace Go.Ev
noncomputable section
noncomputable def Zvp:Run:=entG Zef Zkf (fun a=>ZjG a.1) (fun a=>ZhF a.1)
theorem ZBe:EntOK Go.Proofs.Tryz.prog 82 Zvp:=ZM (tb:=ZnF) (c:=Zj7) ZBl (by kernel_rfl) (by kernel_rfl) (by kernel_rfl) (fun a=>by kernel_rfl) fun ⟨t,_⟩ hk=>Zm (c:=Zj7) (K:=fun v=>(Zkf v,tps (toForms Zef (t,())))) (S:=Zdu t) (by kernel_rfl) (ZBf t) (ZBC t) (ZDA t hk)
end
end Go.Ev
end

section
open Go Go.Ev
namespace Go.Ev
noncomputable section
def ZdZ:Sig:=[(true,Zc),(true,Zh)]
noncomputable def ZoE:Tbl:=[]
theorem ZA9:∀p∈ZoE,EntOK Go.Proofs.Tryz.prog p.1 p.2:=Zu
noncomputable def Zj8:Code:=Go.Proofs.Tryz.f84.body.getD .skip
def Znh:Tb:=[(5,⟨[2,3,23],[]⟩)]
inductive ZhD where | l5 (h:Bool)
def Zka (p:El Zc) (o:El Zh):ZhD→JT ZhD (Int) |.l5 h=>.br h (.leaf (7:Int)) (.br (o.1==(3:Int)) (.br ((decide ((0:Int)≤o.2.2.1))&&(decide (o.2.2.1 < (Int.ofNat (List.length p.1))))) (.br (decide (o.2.2.2≥(List.getD p.1 (Int.toNat o.2.2.1) (dflt Zx)).2.1)) (.leaf (8:Int)) (.leaf (0:Int))) (.no)) (.leaf (0:Int)))
def Znx (p:El Zc) (o:El Zh):JT ZhD (Int):=.br (o.1 !=(3:Int)) (.br (o.1 !=(4:Int)) (.leaf (0:Int)) (.br (decide (o.2.2.1 < (0:Int))) (.jmp (.l5 true)) (.jmp (.l5 (decide (o.2.2.1≥(Int.ofNat (List.length p.1)))))))) (.br (decide (o.2.2.1 < (0:Int))) (.jmp (.l5 true)) (.jmp (.l5 (decide (o.2.2.1≥(Int.ofNat (List.length p.1)))))))
def ZdP (p:El Zc) (o:El Zh) (h:Bool):Int:=bif h then (7:Int) else bif (o.1==(3:Int)) then bif ((decide ((0:Int)≤o.2.2.1))&&(decide (o.2.2.1 < (Int.ofNat (List.length p.1))))) then bif (decide (o.2.2.2≥(List.getD p.1 (Int.toNat o.2.2.1) (dflt Zx)).2.1)) then (8:Int) else (0:Int) else (0:Int) else (0:Int)
def ZdO (p:El Zc) (o:El Zh) (h:Bool):Bool:=bif h then true else bif (o.1==(3:Int)) then bif ((decide ((0:Int)≤o.2.2.1))&&(decide (o.2.2.1 < (Int.ofNat (List.length p.1))))) then bif (decide (o.2.2.2≥(List.getD p.1 (Int.toNat o.2.2.1) (dflt Zx)).2.1)) then true else true else false else true
theorem Zgb (p:El Zc) (o:El Zh) (h:Bool) (hk:ZdO p o h=true):Goes (Zka p o) (.jmp (.l5 h)) (ZdP p o h):=Goes.jmp (Goes.brk hk (fun hk=>Goes.leaf) (fun hk=>Goes.brk hk (fun hk=>Goes.brk hk (fun hk=>Goes.brk hk (fun hk=>Goes.leaf) (fun hk=>Goes.leaf)) (fun hk=>Goes.nok hk)) (fun hk=>Goes.leaf)))
def ZuP (p:El Zc) (o:El Zh):Int:=bif (o.1 !=(3:Int)) then bif (o.1 !=(4:Int)) then (0:Int) else bif (decide (o.2.2.1 < (0:Int))) then ZdP p o true else ZdP p o (decide (o.2.2.1≥(Int.ofNat (List.length p.1)))) else bif (decide (o.2.2.1 < (0:Int))) then ZdP p o true else ZdP p o (decide (o.2.2.1≥(Int.ofNat (List.length p.1))))
def Ztu (p:El Zc) (o:El Zh):Bool:=bif (o.1 !=(3:Int)) then bif (o.1 !=(4:Int)) then true else bif (decide (o.2.2.1 < (0:Int))) then ZdO p o true else ZdO p o (decide (o.2.2.1≥(Int.ofNat (List.length p.1)))) else bif (decide (o.2.2.1 < (0:Int))) then ZdO p o true else ZdO p o (decide (o.2.2.1≥(Int.ofNat (List.length p.1))))
theorem ZAM (p:El Zc) (o:El Zh) (hk:Ztu p o=true):Goes (Zka p o) (Znx p o) (ZuP p o):=Goes.brk hk (fun hk=>Goes.brk hk (fun hk=>Goes.leaf) (fun hk=>Goes.brk hk (fun hk=>Zgb p o true hk) (fun hk=>Zgb p o (decide (o.2.2.1≥(Int.ofNat (List.length p.1)))) hk))) (fun hk=>Goes.brk hk (fun hk=>Zgb p o true hk) (fun hk=>Zgb p o (decide (o.2.2.1≥(Int.ofNat (List.length p.1)))) hk))
def Zkp:Int→AV:=fun (r:Int)=>.d (.int .i64) r
def Zdr (p:El Zc) (o:El Zh):ZhD→Nat×St |.l5 h=>(5,⟨mkTm 39 [(2,.pt 3 0 0),(3,.pt 4 0 0),(23,.d .bool h)],[(3,0,.box 26 [.d (.sl Zx) p.1,.d (.sl (.sl Za)) p.2] none),(4,0,.box 47 [.d (.int .i64) o.1,.d (.int .i64) o.2.1,.d (.int .i64) o.2.2.1,.d (.int .i64) o.2.2.2] none)]⟩)
theorem ZBr (p:El Zc) (o:El Zh) (L:Lt):entryA Go.Proofs.Tryz.prog (clOf ZoE) Znh Go.Proofs.Tryz.f84 Zj8 L (toForms ZdZ (p,o,()))=(Znx p o).run (fun v=>some (Zkp v,tps (toForms ZdZ (p,o,())))) fun j=>L (Zdr p o j).1 (Zdr p o j).2:=by kernel_rfl
theorem ZBn (p:El Zc) (o:El Zh):∀(L:Lt) (j:ZhD),procOf (procsF Go.Proofs.Tryz.prog (clOf ZoE) Znh Go.Proofs.Tryz.f84 Zj8 (toForms ZdZ (p,o,()))) (Zdr p o j).1 L (Zdr p o j).2=(Zka p o j).run (fun v=>some (Zkp v,tps (toForms ZdZ (p,o,())))) fun j=>L (Zdr p o j).1 (Zdr p o j).2 | L,.l5 h=>by kernel_rfl
end
end Go.Ev
end

section
open Go
namespace Go.Ev
def Zbk (p:El Zc) (o:El Zh):Int:=placeC p o
theorem ZMk (len:Nat) (size:Int→Int) (k s n:Int):
 (bif (k !=(3:Int)) then
  bif (k !=(4:Int)) then
   (0:Int)
  else bif (decide (s < (0:Int))) then (7:Int)
  else bif (decide (s≥(Int.ofNat len))) then
  (7:Int)
 else bif (k==(3:Int)) then
  bif ((decide ((0:Int)≤s))&&(decide (s < (Int.ofNat len)))) then
   bif (decide (n≥size s)) then
    (8:Int)
   else (0:Int)
  else (0:Int)
 else (0:Int)
 else bif (decide (s < (0:Int))) then (7:Int)
  else bif (decide (s≥(Int.ofNat len))) then
  (7:Int)
 else bif (k==(3:Int)) then
  bif ((decide ((0:Int)≤s))&&(decide (s < (Int.ofNat len)))) then
   bif (decide (n≥size s)) then
    (8:Int)
   else (0:Int)
  else (0:Int)
 else (0:Int))=placeN len size k s n:=by
 unfold placeN
 by_cases h3:k=3
 ·subst h3
  by_cases hs:s < 0
  ·simp[hs]
  by_cases hl:(len:Int)≤s
  ·simp[hs,hl]
  have h1:0≤s:=by omega
  have h2:s < (len:Int):=by omega
  by_cases hn:size s≤n
  ·simp[hs,hl,hn,h1,h2]
  ·simp[hs,hl,hn,h1,h2]
 by_cases h4:k=4
 ·subst h4
  by_cases hs:s < 0
  ·simp[hs]
  by_cases hl:(len:Int)≤s
  ·simp[hs,hl]
  simp[hs,hl]
 have e3:(k !=(3:Int))=true:=by simp[h3]
 have e4:(k !=(4:Int))=true:=by simp[h4]
 rw[e3,e4]
 simp[h3,h4]
theorem ZNI (len:Nat) (size:Int→Int) (k s n:Int):
 (bif (k !=(3:Int)) then
  bif (k !=(4:Int)) then
   true
  else bif (decide (s < (0:Int))) then true
  else bif (decide (s≥(Int.ofNat len))) then
  true
 else bif (k==(3:Int)) then
  bif ((decide ((0:Int)≤s))&&(decide (s < (Int.ofNat len)))) then
   bif (decide (n≥size s)) then
    true
   else true
  else false
 else true
 else bif (decide (s < (0:Int))) then true
  else bif (decide (s≥(Int.ofNat len))) then
  true
 else bif (k==(3:Int)) then
  bif ((decide ((0:Int)≤s))&&(decide (s < (Int.ofNat len)))) then
   bif (decide (n≥size s)) then
    true
   else true
  else false
 else true)=true:=by
 by_cases h3:k=3
 ·subst h3
  by_cases hs:s < 0
  ·simp[hs]
  by_cases hl:(len:Int)≤s
  ·simp[hs,hl]
  have h1:0≤s:=by omega
  have h2:s < (len:Int):=by omega
  by_cases hn:size s≤n
  ·simp[hs,hl,hn,h1,h2]
  ·simp[hs,hl,hn,h1,h2]
 by_cases h4:k=4
 ·subst h4
  by_cases hs:s < 0
  ·simp[hs]
  by_cases hl:(len:Int)≤s
  ·simp[hs,hl]
  simp[hs,hl]
 have e3:(k !=(3:Int))=true:=by simp[h3]
 have e4:(k !=(4:Int))=true:=by simp[h4]
 rw[e3,e4]
 simp[h3,h4]
theorem ZDH (p:El Zc) (o:El Zh):Goes (Zka p o) (Znx p o) (Zbk p o):=by
 have hk:Ztu p o=true:=ZNI p.1.length (fun s=>(List.getD p.1 s.toNat (dflt Zx)).2.1) o.1 o.2.2.1 o.2.2.2
 have he:ZuP p o=Zbk p o:=ZMk p.1.length (fun s=>(List.getD p.1 s.toNat (dflt Zx)).2.1) o.1 o.2.2.1 o.2.2.2
 rw[←he]
 exact ZAM p o hk
end Go.Ev
end

section
open Go Go.Ev
namespace Go.Ev
noncomputable section
noncomputable def ZvE:Run:=entT ZdZ Zkp (fun a=>Zbk a.1 a.2.1)
theorem ZAN:EntOK Go.Proofs.Tryz.prog 84 ZvE:=Zat (tb:=Znh) (c:=Zj8) ZA9 (by kernel_rfl) (by kernel_rfl) (by kernel_rfl) (fun a=>by kernel_rfl) fun ⟨p,o,_⟩=>Zm (c:=Zj8) (K:=fun v=>(Zkp v,tps (toForms ZdZ (p,o,())))) (S:=Zdr p o) (by kernel_rfl) (ZBr p o) (ZBn p o) (ZDH p o)
end
end Go.Ev
end

section
open Go Go.Ev
namespace Go.Ev
noncomputable section
def Zc5:Sig:=[(true,Zc),(true,(.sl Za))]
noncomputable def ZmZ:Tbl:=[(82,Zvp),(54,Zj5),(83,Zgz),(84,ZvE),(85,ZtO)]
theorem Zzr:∀p∈ZmZ,EntOK Go.Proofs.Tryz.prog p.1 p.2:=Zg ZBe (Zg Zne (Zg Zhf (Zg ZAN (Zg ZwW (Zu)))))
noncomputable def ZiU:Code:=Go.Proofs.Tryz.f55.body.getD .skip
def ZkF:Tb:=[(7,⟨[2,3,5,21,22,23,75,83],[]⟩),(14,⟨[2,3,5,7,21,22,23,28,29,30,75,83],[]⟩),(38,⟨[5,87,88,89],[]⟩)]
inductive ZfU where | l7 (h:Int) (seen:List (ByteArray×Bool)) | l14 (h:List ByteArray) (h1:Int) (i:Int) (i1:Bool) (i2:Int) (i3:Int) (i4:Int) (i5:Int) (i6:Int) (i7:Int) (i8:Int) (i9:Int) (i10:Int) (i11:ByteArray) (i12:List ByteArray) (h2:Int) (seen:List (ByteArray×Bool)) (h3:Int) | l38 (h:Int) (seen:List (ByteArray×Bool))
def Za1 (p:El Zc) (t:List (El Za)):ZfU→JT ZfU (Int) |.l7 h seen=>.br (decide (h < (Int.ofNat (List.length t)))) (.br ((decide ((0:Int)≤h))&&(decide (h < (Int.ofNat (List.length t))))) (.jmp (.l14 (List.getD t (Int.toNat h) (dflt Za)).2.2.2.2.2.2 (Int.ofNat (List.length (List.getD t (Int.toNat h) (dflt Za)).2.2.2.2.2.2)) (List.getD t (Int.toNat h) (dflt Za)).1 (List.getD t (Int.toNat h) (dflt Za)).2.1 (List.getD t (Int.toNat h) (dflt Za)).2.2.1 (List.getD t (Int.toNat h) (dflt Za)).2.2.2.1.1 (List.getD t (Int.toNat h) (dflt Za)).2.2.2.1.2.1 (List.getD t (Int.toNat h) (dflt Za)).2.2.2.1.2.2.1 (List.getD t (Int.toNat h) (dflt Za)).2.2.2.1.2.2.2 (List.getD t (Int.toNat h) (dflt Za)).2.2.2.2.1.1 (List.getD t (Int.toNat h) (dflt Za)).2.2.2.2.1.2.1 (List.getD t (Int.toNat h) (dflt Za)).2.2.2.2.1.2.2.1 (List.getD t (Int.toNat h) (dflt Za)).2.2.2.2.1.2.2.2 (List.getD t (Int.toNat h) (dflt Za)).2.2.2.2.2.1 (List.getD t (Int.toNat h) (dflt Za)).2.2.2.2.2.2 (0:Int) seen h)) (.no)) (.br ((Int.ofNat (List.length t))==(0:Int)) (.leaf (9:Int)) (.br ((decide ((0:Int)≤(IntKind.i64.wrap ((Int.ofNat (List.length t)) - (1:Int)))))&&(decide ((IntKind.i64.wrap ((Int.ofNat (List.length t)) - (1:Int))) < (Int.ofNat (List.length t))))) (.br ((List.getD t (Int.toNat (IntKind.i64.wrap ((Int.ofNat (List.length t)) - (1:Int)))) (dflt Za)).1 !=(10:Int)) (.br ((decide ((0:Int)≤(IntKind.i64.wrap ((Int.ofNat (List.length t)) - (1:Int)))))&&(decide ((IntKind.i64.wrap ((Int.ofNat (List.length t)) - (1:Int))) < (Int.ofNat (List.length t))))) (.br ((List.getD t (Int.toNat (IntKind.i64.wrap ((Int.ofNat (List.length t)) - (1:Int)))) (dflt Za)).1 !=(14:Int)) (.leaf (9:Int)) (.jmp (.l38 (0:Int) seen))) (.no)) (.jmp (.l38 (0:Int) seen))) (.no))) |.l14 h h1 i i1 i2 i3 i4 i5 i6 i7 i8 i9 i10 i11 i12 h2 seen h3=>.br (decide (h2 < h1)) (.br ((decide ((0:Int)≤h2))&&(decide (h2 < (Int.ofNat (List.length h))))) (.br (Zab (List.getD h (Int.toNat h2) (dflt .str))) (.br (! (ZaL (List.getD h (Int.toNat h2) (dflt .str)))) (.leaf (3:Int)) (.br (Option.getD (mget (kt:=.str) (List.getD h (Int.toNat h2) (dflt .str)) seen) false) (.leaf (6:Int)) (.jmp (.l14 h h1 i i1 i2 i3 i4 i5 i6 i7 i8 i9 i10 i11 i12 (IntKind.i64.wrap (h2+(1:Int))) (mput (kt:=.str) (List.getD h (Int.toNat h2) (dflt .str)) true seen) h3)))) (.no)) (.no)) (.br (ZP (i,(i1,(i2,((i3,(i4,(i5,i6))),((i7,(i8,(i9,i10))),(i11,i12))))))) (.br ((Zz (i,(i1,(i2,((i3,(i4,(i5,i6))),((i7,(i8,(i9,i10))),(i11,i12)))))))==(0:Int)) (.br ((Zbk p (i3,(i4,(i5,i6))))==(0:Int)) (.br ((Zbk p (i7,(i8,(i9,i10)))) !=(0:Int)) (.leaf (Zbk p (i7,(i8,(i9,i10))))) (.jmp (.l7 (IntKind.i64.wrap (h3+(1:Int))) seen))) (.br ((Zbk p (i3,(i4,(i5,i6)))) !=(0:Int)) (.leaf (Zbk p (i3,(i4,(i5,i6))))) (.jmp (.l7 (IntKind.i64.wrap (h3+(1:Int))) seen)))) (.br ((Zz (i,(i1,(i2,((i3,(i4,(i5,i6))),((i7,(i8,(i9,i10))),(i11,i12)))))))==(0:Int)) (.br ((Zbk p (i7,(i8,(i9,i10)))) !=(0:Int)) (.leaf (Zbk p (i7,(i8,(i9,i10))))) (.jmp (.l7 (IntKind.i64.wrap (h3+(1:Int))) seen))) (.br ((Zz (i,(i1,(i2,((i3,(i4,(i5,i6))),((i7,(i8,(i9,i10))),(i11,i12))))))) !=(0:Int)) (.leaf (Zz (i,(i1,(i2,((i3,(i4,(i5,i6))),((i7,(i8,(i9,i10))),(i11,i12)))))))) (.jmp (.l7 (IntKind.i64.wrap (h3+(1:Int))) seen))))) (.no)) |.l38 h seen=>.br (decide (h < (Int.ofNat (List.length t)))) (.br ((decide ((0:Int)≤h))&&(decide (h < (Int.ofNat (List.length t))))) (.br (Zdz (List.getD t (Int.toNat h) (dflt Za))) (.br (ZaJ (List.getD t (Int.toNat h) (dflt Za))).2 (.br (! (Option.getD (mget (kt:=.str) (List.getD t (Int.toNat h) (dflt Za)).2.2.2.2.2.1 seen) false)) (.leaf (7:Int)) (.jmp (.l38 (IntKind.i64.wrap (h+(1:Int))) seen))) (.jmp (.l38 (IntKind.i64.wrap (h+(1:Int))) seen))) (.no)) (.no)) (.leaf (0:Int))
def Zkz (p:El Zc) (t:List (El Za)):JT ZfU (Int):=.br (ZjG t) (.br (decide ((ZhF t) > (4096:Int))) (.leaf (10:Int)) (.jmp (.l7 (0:Int) []))) (.no)
def ZiS:Int→AV:=fun (r:Int)=>.d (.int .i64) r
def ZcM (p:El Zc) (t:List (El Za)):ZfU→Nat×St |.l7 h seen=>(7,⟨mkTm 107 [(2,.pt 3 0 0),(3,.pt 4 0 0),(5,.mp 6 0),(21,.d (.sl Za) t),(22,.d (.int .i64) (Int.ofNat (List.length t))),(23,.d (.int .i64) h)],[(3,0,.box 26 [.d (.sl Zx) p.1,.d (.sl (.sl Za)) p.2] none),(4,0,.box 33 [.d (.sl Za) t] none),(6,0,.map .str .bool seen)]⟩) |.l14 h h1 i i1 i2 i3 i4 i5 i6 i7 i8 i9 i10 i11 i12 h2 seen h3=>(14,⟨mkTm 107 [(2,.pt 3 0 0),(3,.pt 4 0 0),(5,.mp 6 0),(7,.pt 8 0 0),(21,.d (.sl Za) t),(22,.d (.int .i64) (Int.ofNat (List.length t))),(23,.d (.int .i64) h3),(28,.d (.sl .str) h),(29,.d (.int .i64) h1),(30,.d (.int .i64) h2)],[(3,0,.box 26 [.d (.sl Zx) p.1,.d (.sl (.sl Za)) p.2] none),(4,0,.box 33 [.d (.sl Za) t] none),(6,0,.map .str .bool seen),(8,0,.box 50 [.d (.int .i64) i,.d .bool i1,.d (.int .i64) i2,.d (.int .i64) i3,.d (.int .i64) i4,.d (.int .i64) i5,.d (.int .i64) i6,.d (.int .i64) i7,.d (.int .i64) i8,.d (.int .i64) i9,.d (.int .i64) i10,.d .str i11,.d (.sl .str) i12] none)]⟩) |.l38 h seen=>(38,⟨mkTm 107 [(5,.mp 6 0),(87,.d (.sl Za) t),(88,.d (.int .i64) (Int.ofNat (List.length t))),(89,.d (.int .i64) h)],[(6,0,.map .str .bool seen)]⟩)
theorem Zz3 (p:El Zc) (t:List (El Za)) (L:Lt):entryA Go.Proofs.Tryz.prog (clOf ZmZ) ZkF Go.Proofs.Tryz.f55 ZiU L (toForms Zc5 (p,t,()))=(Zkz p t).run (fun v=>some (ZiS v,tps (toForms Zc5 (p,t,())))) fun j=>L (ZcM p t j).1 (ZcM p t j).2:=by kernel_rfl
theorem ZzM (p:El Zc) (t:List (El Za)):∀(L:Lt) (j:ZfU),procOf (procsF Go.Proofs.Tryz.prog (clOf ZmZ) ZkF Go.Proofs.Tryz.f55 ZiU (toForms Zc5 (p,t,()))) (ZcM p t j).1 L (ZcM p t j).2=(Za1 p t j).run (fun v=>some (ZiS v,tps (toForms Zc5 (p,t,())))) fun j=>L (ZcM p t j).1 (ZcM p t j).2 | L,.l7 h seen=>by kernel_rfl | L,.l14 h h1 i i1 i2 i3 i4 i5 i6 i7 i8 i9 i10 i11 i12 h2 seen h3=>by kernel_rfl | L,.l38 h seen=>by kernel_rfl
end
end Go.Ev
end

section
open Go
namespace Go.Ev
def ZfV (p:El Zc) (t:List (El Za)):Int:=threadC p t
def ZiY (p:El Zc) (t:List (El Za)):Bool:=smallThread t
theorem ZAU (p:El Zc) (t:List (El Za)) (hk:ZiY p t=true):Goes (Za1 p t) (Zkz p t) (ZfV p t):=by
 have hS:=smallT hk
 have hn:=hS.len
 have jmps:∀m seen,Seen m seen→(∀i∈t,Zz i=0)→∀k,k≤t.length→Goes (Za1 p t) (.jmp (.l38 (k:Int) m)) (jumpC seen (t.drop k)):=by
  intro m seen hm hr
  refine down ?_ fun k hk ih=>?_
  ·rw[Zi]
   simp only[Za1,Ze,Zw (Nat.lt_irrefl _),ZS,List.drop_length]
   simp[jumpC]
  ·have hmem:t[k]∈t:=List.getElem_mem hk
   have hto:=hS.to _ hmem
   rw[Zi]
   simp only[Za1,Ze,ZR hk,nng,Bool.and_self,if_true,Int.toNat_natCast,ZH hk,Zr (k:=k) (by omega),ZMP hto,ZNy hto (hr _ hmem),hm t[k].2.2.2.2.2.1]
   rw[ZO hk]
   unfold jumpC
   by_cases h1:((t[k].1==(10:Int)) || (t[k].1==(11:Int)))=true
   ·rw[if_pos h1,if_pos h1]
    by_cases h2:seen.contains t[k].2.2.2.2.2.1=true
    ·rw[if_pos h2,if_neg (by rw[h2];decide)];exact ih
    ·rw[if_neg h2,if_pos (by rw[Bool.eq_false_iff.2 h2];rfl)];exact .leaf
   ·rw[if_neg h1,if_neg h1];exact ih
 have main:∀k,k≤t.length→∀m seen,Seen m seen→(∀i∈t.take k,Zz i=0)→Goes (Za1 p t) (.jmp (.l7 (k:Int) m)) (scanI p (fun seen=>endC t (jumpC seen t)) seen (t.drop k)):=by
  refine down ?_ fun k hk ih=>?_
  ·intro m seen hm hr
   rw[List.take_length] at hr
   have hj:=jmps m seen hm hr 0 (Nat.zero_le _)
   rw[List.drop_zero] at hj
   rw[Zi,List.drop_length]
   unfold scanI
   simp only[Za1,Ze,Zw (Nat.lt_irrefl _)]
   rw[if_neg (by decide)]
   by_cases h0:t.length=0
   ·have:t=[]:=List.eq_nil_of_length_eq_zero h0
    rw[this];simp[ZS,endC]
   ·have hp:0 < t.length:=by omega
    rw[if_neg (by simp;exact fun e=>h0 (by rw[e];rfl)),ZKb hp]
    rw[show Int.ofNat t.length=(t.length:Int) from rfl,ZH5 (k:=t.length) (by omega) hp]
    have hb:(decide (0≤((t.length - 1:Nat):Int))&&decide (((t.length - 1:Nat):Int) < (t.length:Int)))=true:=by simp;omega
    simp only[hb,if_true,Int.toNat_natCast,ZH (show t.length - 1 < t.length by omega)]
    unfold bne
    cases h10:(t[t.length - 1].1==(10:Int)) with
    | true=>simpa using hj
    | false=>
     cases h14:(t[t.length - 1].1==(14:Int)) with
     | true=>simpa using hj
     | false=>simp[ZS]
  ·intro m seen hm hr
   have hmem:t[k]∈t:=List.getElem_mem hk
   have hto:=hS.to _ hmem
   have hlab:=hS.lab _ hmem
   have hlen:=Nat.lt_of_le_of_lt (ZwN hmem) hS.labs
   have hr':Zz t[k]=0→∀i∈t.take (k+1),Zz i=0:=fun h i hi=>by
    rw[List.take_add_one,List.getElem?_eq_getElem hk] at hi
    rcases List.mem_append.1 hi with hi | hi
    ·exact hr i hi
    ·rw[Option.toList_some,List.mem_singleton] at hi;rw[hi];exact h
   rw[Zi]
   simp only[Za1,Ze,ZR hk,nng,Bool.and_self,if_true,Int.toNat_natCast,ZH hk]
   rw[ZO hk]
   unfold scanI
   generalize t[k]=i at hto hlab hlen hr'
   obtain ⟨op,lock,cond,⟨ak,ar,ay,an⟩,⟨bk,br,bz,bn⟩,to,ls⟩:=i
   dsimp only at hto hlab hlen hr' ⊢
   have inner:∀j,j≤ls.length→∀m seen,Seen m seen→Goes (Za1 p t) (.jmp (.l14 ls (Int.ofNat ls.length) op lock cond ak ar ay an bk br bz bn to ls (j:Int) m (k:Int))) (scanL seen (fun seen=>if insC p (op,(lock,(cond,((ak,(ar,(ay,an))),((bk,(br,(bz,bn))),(to,ls))))))≠0 then insC p (op,(lock,(cond,((ak,(ar,(ay,an))),((bk,(br,(bz,bn))),(to,ls)))))) else scanI p (fun seen=>endC t (jumpC seen t)) seen (t.drop (k+1))) (ls.drop j)):=by
    refine down ?_ fun j hj ihj=>?_
    ·intro m seen hm
     rw[Zi,List.drop_length]
     unfold scanL
     have hkr:ZP (op,(lock,(cond,((ak,(ar,(ay,an))),((bk,(br,(bz,bn))),(to,ls))))))=true:=hto
     simp only[Za1,Ze,Zw (Nat.lt_irrefl _),hkr,if_true,Zbk,Zr (k:=k) (by omega)]
     rw[if_neg (by decide)]
     unfold insC
     dsimp only
     by_cases hr:Zz (op,(lock,(cond,((ak,(ar,(ay,an))),((bk,(br,(bz,bn))),(to,ls))))))=0
     ·have ih':=ih m seen hm (hr' hr)
      by_cases ha:placeC p (ak,(ar,(ay,an)))=0
      ·by_cases hb:placeC p (bk,(br,(bz,bn)))=0
       ·simp[hr,ha,hb];exact ih'
       ·simp[hr,ha,hb,ZS]
      ·simp[hr,ha,ZS]
     ·simp[hr,ZS]
    ·intro m seen hm
     have hl:=hlab ls[j] (List.getElem_mem hj)
     have hkn:Zab ls[j]=true:=hl
     rw[Zi]
     simp only[Za1,Ze,ZR hj,nng,Bool.and_self,if_true,Int.toNat_natCast,ZH hj,Zr (k:=j) (by omega),hkn,hm ls[j]]
     rw[ZO hj]
     unfold scanL
     by_cases h1:nameRight ls[j]=false
     ·rw[if_pos h1,if_pos (by show (! nameRight ls[j])=true;rw[h1];rfl)];exact .leaf
     ·rw[if_neg h1,if_neg (by show ¬(! nameRight ls[j])=true;simpa using h1)]
      by_cases h2:seen.contains ls[j]=true
      ·rw[if_pos h2,if_pos h2];exact .leaf
      ·rw[if_neg h2,if_neg h2];exact ihj _ _ (hm.put _)
   have:=inner 0 (Nat.zero_le _) m seen hm
   rw[List.drop_zero] at this
   exact this
 unfold Zkz ZfV
 have hkc:ZjG t=true:=decide_eq_true hn
 simp only[Ze,hkc,if_true]
 unfold threadC ZhF
 by_cases h:4096 < countM t
 ·rw[if_pos (by simp;omega),if_pos h];exact .leaf
 ·rw[if_neg (by simp;omega),if_neg h]
  exact main 0 (Nat.zero_le _) [] [] Seen.nil (fun i hi=>by simp at hi)
end Go.Ev
end

section
open Go Go.Ev
namespace Go.Ev
noncomputable section
noncomputable def Zty:Run:=entG Zc5 ZiS (fun a=>ZiY a.1 a.2.1) (fun a=>ZfV a.1 a.2.1)
theorem Zy7:EntOK Go.Proofs.Tryz.prog 55 Zty:=ZM (tb:=ZkF) (c:=ZiU) Zzr (by kernel_rfl) (by kernel_rfl) (by kernel_rfl) (fun a=>by kernel_rfl) fun ⟨p,t,_⟩ hk=>Zm (c:=ZiU) (K:=fun v=>(ZiS v,tps (toForms Zc5 (p,t,())))) (S:=ZcM p t) (by kernel_rfl) (Zz3 p t) (ZzM p t) (ZAU p t hk)
end
end Go.Ev
end

section
open Go Go.Ev
namespace Go.Ev
noncomputable section
def ZdY:Sig:=[(true,Zc)]
noncomputable def Zp7:Tbl:=[(54,Zj5),(55,Zty)]
theorem ZBL:∀p∈Zp7,EntOK Go.Proofs.Tryz.prog p.1 p.2:=Zg Zne (Zg Zy7 (Zu))
noncomputable def Zkk:Code:=Go.Proofs.Tryz.f31.body.getD .skip
def ZnB:Tb:=[(7,⟨[1,3,21,22,23],[]⟩),(21,⟨[1,59,60,61],[]⟩)]
inductive ZhT where | l7 (h:Int) (seen:List (ByteArray×Bool)) | l21 (h:Int)
def ZcD (p:El Zc):ZhT→JT ZhT (Int) |.l7 h seen=>.br (decide (h < (Int.ofNat (List.length p.1)))) (.br ((decide ((0:Int)≤h))&&(decide (h < (Int.ofNat (List.length p.1))))) (.br (Zab (List.getD p.1 (Int.toNat h) (dflt Zx)).1) (.br (! (ZaL (List.getD p.1 (Int.toNat h) (dflt Zx)).1)) (.leaf (3:Int)) (.br (Option.getD (mget (kt:=.str) (List.getD p.1 (Int.toNat h) (dflt Zx)).1 seen) false) (.leaf (6:Int)) (.br (decide ((List.getD p.1 (Int.toNat h) (dflt Zx)).2.1 < (1:Int))) (.leaf (5:Int)) (.br (decide ((List.getD p.1 (Int.toNat h) (dflt Zx)).2.1 > (64:Int))) (.leaf (5:Int)) (.br (decide ((Int.ofNat (List.length (List.getD p.1 (Int.toNat h) (dflt Zx)).2.2)) > (List.getD p.1 (Int.toNat h) (dflt Zx)).2.1)) (.leaf (5:Int)) (.jmp (.l7 (IntKind.i64.wrap (h+(1:Int))) (mput (kt:=.str) (List.getD p.1 (Int.toNat h) (dflt Zx)).1 true seen)))))))) (.no)) (.no)) (.jmp (.l21 (0:Int))) |.l21 h=>.br (decide (h < (Int.ofNat (List.length p.2)))) (.br ((decide ((0:Int)≤h))&&(decide (h < (Int.ofNat (List.length p.2))))) (.br (ZiY p (List.getD p.2 (Int.toNat h) (dflt (.sl Za)))) (.br ((ZfV p (List.getD p.2 (Int.toNat h) (dflt (.sl Za)))) !=(0:Int)) (.leaf (ZfV p (List.getD p.2 (Int.toNat h) (dflt (.sl Za))))) (.jmp (.l21 (IntKind.i64.wrap (h+(1:Int)))))) (.no)) (.no)) (.leaf (0:Int))
def ZmX (p:El Zc):JT ZhT (Int):=.br (decide ((Int.ofNat (List.length p.1)) > (64:Int))) (.leaf (10:Int)) (.br (decide ((Int.ofNat (List.length p.2)) > (64:Int))) (.leaf (10:Int)) (.jmp (.l7 (0:Int) [])))
def ZjI:Int→AV:=fun (r:Int)=>.d (.int .i64) r
def ZdA (p:El Zc):ZhT→Nat×St |.l7 h seen=>(7,⟨mkTm 72 [(1,.pt 2 0 0),(3,.mp 4 0),(21,.d (.sl Zx) p.1),(22,.d (.int .i64) (Int.ofNat (List.length p.1))),(23,.d (.int .i64) h)],[(2,0,.box 26 [.d (.sl Zx) p.1,.d (.sl (.sl Za)) p.2] none),(4,0,.map .str .bool seen)]⟩) |.l21 h=>(21,⟨mkTm 72 [(1,.pt 2 0 0),(59,.d (.sl (.sl Za)) p.2),(60,.d (.int .i64) (Int.ofNat (List.length p.2))),(61,.d (.int .i64) h)],[(2,0,.box 26 [.d (.sl Zx) p.1,.d (.sl (.sl Za)) p.2] none)]⟩)
theorem ZBR (p:El Zc) (L:Lt):entryA Go.Proofs.Tryz.prog (clOf Zp7) ZnB Go.Proofs.Tryz.f31 Zkk L (toForms ZdY (p,()))=(ZmX p).run (fun v=>some (ZjI v,tps (toForms ZdY (p,())))) fun j=>L (ZdA p j).1 (ZdA p j).2:=by kernel_rfl
theorem ZBD (p:El Zc):∀(L:Lt) (j:ZhT),procOf (procsF Go.Proofs.Tryz.prog (clOf Zp7) ZnB Go.Proofs.Tryz.f31 Zkk (toForms ZdY (p,()))) (ZdA p j).1 L (ZdA p j).2=(ZcD p j).run (fun v=>some (ZjI v,tps (toForms ZdY (p,())))) fun j=>L (ZdA p j).1 (ZdA p j).2 | L,.l7 h seen=>by kernel_rfl | L,.l21 h=>by kernel_rfl
end
end Go.Ev
end

section
open Go
namespace Go.Ev
def Zbz (p:El Zc):Int:=checkC p
def Za6 (p:El Zc):Bool:=smallProg p
theorem ZCO (p:El Zc) (hk:Za6 p=true):Goes (ZcD p) (ZmX p) (Zbz p):=by
 have hth:∀t∈p.2,smallThread t=true:=by
  unfold Za6 smallProg at hk
  simp only[Bool.and_eq_true,List.all_eq_true] at hk
  exact hk.2
 have hsy:∀s∈p.1,smallText s.1=true:=by
  unfold Za6 smallProg at hk
  simp only[Bool.and_eq_true,List.all_eq_true] at hk
  exact hk.1
 obtain ⟨sy,th⟩:=p
 dsimp only at hth hsy
 have ths:th.length≤64→∀k,k≤th.length→Goes (ZcD (sy,th)) (.jmp (.l21 (k:Int))) (thsC (sy,th) (th.drop k)):=by
  intro hn
  refine down ?_ fun k hk ih=>?_
  ·rw[Zi]
   simp only[ZcD,Ze,Zw (Nat.lt_irrefl _),ZS,List.drop_length]
   simp[thsC]
  ·have hkt:ZiY (sy,th) th[k]=true:=hth _ (List.getElem_mem hk)
   rw[Zi]
   simp only[ZcD,Ze,ZR hk,nng,Bool.and_self,if_true,Int.toNat_natCast,ZH hk,Zr (k:=k) (by omega),hkt]
   rw[ZO hk]
   unfold thsC
   show (if (threadC (sy,th) th[k] !=0)=true then _ else _)
   by_cases h:threadC (sy,th) th[k]=0
   ·rw[if_neg (by simp[h]),if_neg (by simp[h])];exact ih
   ·rw[if_pos (by simp[h]),if_pos h];exact .leaf
 have main:sy.length≤64→th.length≤64→∀k,k≤sy.length→∀m seen,Seen m seen→Goes (ZcD (sy,th)) (.jmp (.l7 (k:Int) m)) (symsC (thsC (sy,th) th) seen (sy.drop k)):=by
  intro hn hm
  refine down ?_ fun k hk ih=>?_
  ·intro m seen hs
   rw[Zi,List.drop_length]
   unfold symsC
   simp only[ZcD,Ze,Zw (Nat.lt_irrefl _)]
   rw[if_neg (by decide)]
   simpa using ths hm 0 (Nat.zero_le _)
  ·intro m seen hs
   have hkn:Zab sy[k].1=true:=hsy _ (List.getElem_mem hk)
   rw[Zi]
   simp only[ZcD,Ze,ZR hk,nng,Bool.and_self,if_true,Int.toNat_natCast,ZH hk,Zr (k:=k) (by omega),hkn,hs sy[k].1]
   rw[ZO hk]
   unfold symsC
   generalize sy[k]=s at*
   obtain ⟨nm,size,init⟩:=s
   dsimp only
   change Int at size
   by_cases h1:nameRight nm=false
   ·rw[if_pos h1,if_pos (by show (! nameRight nm)=true;rw[h1];rfl)];exact .leaf
   rw[if_neg h1,if_neg (by show ¬(! nameRight nm)=true;simpa using h1)]
   by_cases h2:seen.contains nm=true
   ·rw[if_pos h2,if_pos h2];exact .leaf
   rw[if_neg h2,if_neg h2]
   by_cases h3:size < 1
   ·rw[if_pos (decide_eq_true h3),if_pos (.inl h3)];exact .leaf
   rw[if_neg (by simpa using h3)]
   by_cases h4:64 < size
   ·rw[if_pos (decide_eq_true h4),if_pos (.inr (.inl h4))];exact .leaf
   rw[if_neg (by simpa using h4)]
   by_cases h5:size < (List.length init:Int)
   ·rw[if_pos (show decide (Int.ofNat (List.length init) > size)=true from decide_eq_true h5),if_pos (.inr (.inr h5))];exact .leaf
   rw[if_neg (show ¬decide (Int.ofNat (List.length init) > size)=true by simpa using h5),if_neg (by rintro (h | h | h) <;> contradiction)]
   exact ih _ _ (hs.put nm)
 unfold ZmX Zbz checkC
 simp only[Ze]
 by_cases h:64 < sy.length
 ·rw[if_pos (by simp;omega),if_pos (.inl h)];exact .leaf
 rw[if_neg (by simp;omega)]
 by_cases h2:64 < th.length
 ·rw[if_pos (by simp;omega),if_pos (.inr h2)];exact .leaf
 rw[if_neg (by simp;omega),if_neg (by rintro (h | h) <;> contradiction)]
 exact main (by omega) (by omega) 0 (Nat.zero_le _) [] [] Seen.nil
end Go.Ev
end

section
open Go Go.Ev
namespace Go.Ev
noncomputable section
noncomputable def ZjW:Run:=entG ZdY ZjI (fun a=>Za6 a.1) (fun a=>Zbz a.1)
theorem Znc:EntOK Go.Proofs.Tryz.prog 31 ZjW:=ZM (tb:=ZnB) (c:=Zkk) ZBL (by kernel_rfl) (by kernel_rfl) (by kernel_rfl) (fun a=>by kernel_rfl) fun ⟨p,_⟩ hk=>Zm (c:=Zkk) (K:=fun v=>(ZjI v,tps (toForms ZdY (p,())))) (S:=ZdA p) (by kernel_rfl) (ZBR p) (ZBD p) (ZCO p hk)
end
end Go.Ev
end

section
open Go Go.Ev
namespace Go.Ev
noncomputable section
def Zhd:Sig:=[(true,Zc),(false,(.int .i64))]
noncomputable def ZtU:Tbl:=[(31,ZjW)]
theorem ZFG:∀p∈ZtU,EntOK Go.Proofs.Tryz.prog p.1 p.2:=Zg Znc (Zu)
noncomputable def Zpq:Code:=Go.Proofs.Tryz.f14.body.getD .skip
def ZrK:Tb:=[]
def Zzn (p:El Zc) (t:Int):Empty→JT Empty (Bool):=fun j=>nomatch j
def Zxg (p:El Zc) (t:Int):JT Empty (Bool):=.br (decide (t≥(0:Int))) (.br (decide (t < (Int.ofNat (List.length p.2)))) (.br (Za6 p) (.leaf ((Zbz p)==(0:Int))) (.no)) (.leaf false)) (.leaf false)
def ZbQ (p:El Zc) (t:Int):Bool:=bif (decide (t≥(0:Int))) then bif (decide (t < (Int.ofNat (List.length p.2)))) then bif (Za6 p) then ((Zbz p)==(0:Int)) else false else false else false
def ZbO (p:El Zc) (t:Int):Bool:=bif (decide (t≥(0:Int))) then bif (decide (t < (Int.ofNat (List.length p.2)))) then bif (Za6 p) then true else false else true else true
theorem ZJY (p:El Zc) (t:Int) (hk:ZbO p t=true):Goes (Zzn p t) (Zxg p t) (ZbQ p t):=Goes.brk hk (fun hk=>Goes.brk hk (fun hk=>Goes.brk hk (fun hk=>Goes.leaf) (fun hk=>Goes.nok hk)) (fun hk=>Goes.leaf)) (fun hk=>Goes.leaf)
def Zo7:Bool→AV:=fun (r:Bool)=>.d .bool r
def ZgI (p:El Zc) (t:Int):Empty→Nat×St:=fun j=>nomatch j
theorem ZHH (p:El Zc) (t:Int) (L:Lt):entryA Go.Proofs.Tryz.prog (clOf ZtU) ZrK Go.Proofs.Tryz.f14 Zpq L (toForms Zhd (p,t,()))=(Zxg p t).run (fun v=>some (Zo7 v,tps (toForms Zhd (p,t,())))) fun j=>L (ZgI p t j).1 (ZgI p t j).2:=by kernel_rfl
theorem ZFQ (p:El Zc) (t:Int):∀(L:Lt) (j:Empty),procOf (procsF Go.Proofs.Tryz.prog (clOf ZtU) ZrK Go.Proofs.Tryz.f14 Zpq (toForms Zhd (p,t,()))) (ZgI p t j).1 L (ZgI p t j).2=(Zzn p t j).run (fun v=>some (Zo7 v,tps (toForms Zhd (p,t,())))) fun j=>L (ZgI p t j).1 (ZgI p t j).2:=fun L j=>nomatch j
noncomputable def ZoZ:Run:=entG Zhd Zo7 (fun a=>ZbO a.1 a.2.1) (fun a=>ZbQ a.1 a.2.1)
theorem Zrd:EntOK Go.Proofs.Tryz.prog 14 ZoZ:=ZM (tb:=ZrK) (c:=Zpq) ZFG (by kernel_rfl) (by kernel_rfl) (by kernel_rfl) (fun a=>by kernel_rfl) fun ⟨p,t,_⟩ hk=>Zm (c:=Zpq) (K:=fun v=>(Zo7 v,tps (toForms Zhd (p,t,())))) (S:=ZgI p t) (by kernel_rfl) (ZHH p t) (ZFQ p t) (ZJY p t hk)
end
end Go.Ev
end

section
open Go Go.Ev
namespace Go.Ev
noncomputable section
def Zib:Sig:=[(true,Zc)]
noncomputable def ZwP:Tbl:=[(31,ZjW),(58,ZrE),(59,ZzV),(60,Zxp)]
theorem ZIM:∀p∈ZwP,EntOK Go.Proofs.Tryz.prog p.1 p.2:=Zg Znc (Zg ZvJ (Zg ZHO (Zg ZDY (Zu))))
noncomputable def ZsU:Code:=Go.Proofs.Tryz.f35.body.getD .skip
def Zt7:Tb:=[(7,⟨[3,17,18,19],[(4,134)]⟩),(13,⟨[3,4,17,18,19,25,26,27],[(4,134)]⟩),(hintK,⟨[1],[(1,135)]⟩)]
inductive ZnS where | l7 (h:Int) (out:List (El Zb)) | l13 (h:List (El Za)) (h1:Int) (h2:Int) (out:List (El Zb)) (t:Int) (h3:Int)
def ZfA (p:El Zc):ZnS→JT ZnS (List (El Zb)) |.l7 h out=>.br (decide (h < (Int.ofNat (List.length p.2)))) (.br ((decide ((0:Int)≤h))&&(decide (h < (Int.ofNat (List.length p.2))))) (.jmp (.l13 (List.getD p.2 (Int.toNat h) (dflt (.sl Za))) (Int.ofNat (List.length (List.getD p.2 (Int.toNat h) (dflt (.sl Za))))) (0:Int) out h h)) (.no)) (.leaf out) |.l13 h h1 h2 out t h3=>.br (decide (h2 < h1)) (.br ((decide ((0:Int)≤h2))&&(decide (h2 < (Int.ofNat (List.length h))))) (.br (Zav (List.getD h (Int.toNat h2) (dflt Za))) (.br (Zk3 (List.getD h (Int.toNat h2) (dflt Za))) (.br (ZaI (List.getD h (Int.toNat h2) (dflt Za))).2 (.br (Nat.ble (((List.length out)+1)*40) limit) (.br (ZgO (List.getD h (Int.toNat h2) (dflt Za))) (.br (ZaG (List.getD h (Int.toNat h2) (dflt Za))).2 (.br (Nat.ble (((List.length (out++[(t,(h2,((0:Int),((ZaI (List.getD h (Int.toNat h2) (dflt Za))).1.2.2.1,(false,(Zak (List.getD h (Int.toNat h2) (dflt Za))))))))]))+1)*40) limit) (.jmp (.l13 h h1 (IntKind.i64.wrap (h2+(1:Int))) ((out++[(t,(h2,((0:Int),((ZaI (List.getD h (Int.toNat h2) (dflt Za))).1.2.2.1,(false,(Zak (List.getD h (Int.toNat h2) (dflt Za))))))))])++[(t,(h2,((1:Int),((ZaG (List.getD h (Int.toNat h2) (dflt Za))).1.2.2.1,(true,(Zak (List.getD h (Int.toNat h2) (dflt Za))))))))]) t h3)) (.no)) (.jmp (.l13 h h1 (IntKind.i64.wrap (h2+(1:Int))) (out++[(t,(h2,((0:Int),((ZaI (List.getD h (Int.toNat h2) (dflt Za))).1.2.2.1,(false,(Zak (List.getD h (Int.toNat h2) (dflt Za))))))))]) t h3))) (.no)) (.no)) (.br (ZgO (List.getD h (Int.toNat h2) (dflt Za))) (.br (ZaG (List.getD h (Int.toNat h2) (dflt Za))).2 (.br (Nat.ble (((List.length out)+1)*40) limit) (.jmp (.l13 h h1 (IntKind.i64.wrap (h2+(1:Int))) (out++[(t,(h2,((0:Int),((ZaG (List.getD h (Int.toNat h2) (dflt Za))).1.2.2.1,(true,(Zak (List.getD h (Int.toNat h2) (dflt Za))))))))]) t h3)) (.no)) (.jmp (.l13 h h1 (IntKind.i64.wrap (h2+(1:Int))) out t h3))) (.no))) (.no)) (.no)) (.no)) (.jmp (.l7 (IntKind.i64.wrap (h3+(1:Int))) out))
def Zul (p:El Zc):JT ZnS (List (El Zb)):=.br (Za6 p) (.br ((Zbz p) !=(0:Int)) (.leaf []) (.jmp (.l7 (0:Int) []))) (.no)
def Zsq:List (El Zb)→AV:=fun (r:List (El Zb))=>.d (.sl Zb) r
def Zio (p:El Zc):ZnS→Nat×St |.l7 h out=>(7,⟨mkTm 68 [(3,.own 4 0 none),(17,.d (.sl (.sl Za)) p.2),(18,.d (.int .i64) (Int.ofNat (List.length p.2))),(19,.d (.int .i64) h)],[(4,0,.row 70 Zb out false)]⟩) |.l13 h h1 h2 out t h3=>(13,⟨mkTm 68 [(3,.own 4 0 none),(4,.d (.int .i64) t),(17,.d (.sl (.sl Za)) p.2),(18,.d (.int .i64) (Int.ofNat (List.length p.2))),(19,.d (.int .i64) h3),(25,.d (.sl Za) h),(26,.d (.int .i64) h1),(27,.d (.int .i64) h2)],[(4,0,.row 70 Zb out false)]⟩)
theorem ZIR (p:El Zc) (L:Lt):entryA Go.Proofs.Tryz.prog (clOf ZwP) Zt7 Go.Proofs.Tryz.f35 ZsU L (toForms Zib (p,()))=(Zul p).run (fun v=>some (Zsq v,tps (toForms Zib (p,())))) fun j=>L (Zio p j).1 (Zio p j).2:=by kernel_rfl
theorem ZJ5 (p:El Zc):∀(L:Lt) (j:ZnS),procOf (procsF Go.Proofs.Tryz.prog (clOf ZwP) Zt7 Go.Proofs.Tryz.f35 ZsU (toForms Zib (p,()))) (Zio p j).1 L (Zio p j).2=(ZfA p j).run (fun v=>some (Zsq v,tps (toForms Zib (p,())))) fun j=>L (Zio p j).1 (Zio p j).2 | L,.l7 h out=>by kernel_rfl | L,.l13 h h1 h2 out t h3=>by kernel_rfl
end
end Go.Ev
end

section
open Go
namespace Go.Ev
def ZC (p:El Zc):List (El Zb):=ofC p
def ZnV (p:El Zc):Bool:=smallAll p
theorem ZLl (p:El Zc) (hk:ZnV p=true):Goes (ZfA p) (Zul p) (ZC p):=by
 have hA:=smallA hk
 obtain ⟨sy,th⟩:=p
 have hkc:Za6 (sy,th)=true:=hA.prog
 have hlen:th.length < 1073741824:=hA.len
 have htot:total th < 1073741824:=hA.tot
 have main:∀k,k≤th.length→∀out:List (El Zb),out.length+2*total (th.drop k) < 4294967296→Goes (ZfA (sy,th)) (.jmp (.l7 (k:Int) out)) (out++accP k (th.drop k)):=by
  refine down ?_ fun k hk ih=>?_
  ·intro out ho
   rw[Zi]
   simp only[ZfA,Ze,Zw (Nat.lt_irrefl _),ZS,List.drop_length]
   simp[accP]
  ·intro out ho
   rw[ZCA hk] at ho
   have hS:=smallT (hA.thr _ (List.getElem_mem hk))
   rw[Zi]
   simp only[ZfA,Ze,ZR hk,nng,Bool.and_self,if_true,Int.toNat_natCast,ZH hk]
   rw[ZO hk]
   unfold accP
   generalize th[k]=x at ho hS
   have inner:∀j,j≤List.length x→∀out:List (El Zb),out.length+2*(List.length x - j)+2*total (th.drop (k+1)) < 4294967296→Goes (ZfA (sy,th)) (.jmp (.l13 x (Int.ofNat (List.length x)) (j:Int) out (k:Int) (k:Int))) (out++(accT k j (List.drop j x)++accP (k+1) (th.drop (k+1)))):=by
    refine down ?_ fun j hj ihj=>?_
    ·intro out ho
     rw[Zi]
     simp only[ZfA,Ze,Zw (Nat.lt_irrefl _),Zr (k:=k) (by omega),List.drop_length]
     have:=ih out (by omega)
     simpa[accT] using this
    ·intro out ho
     have hto:=hS.to _ (List.getElem_mem hj)
     obtain ⟨a1,a2,a3,a4⟩:=ZOw hto
     have hx:List.length x < 1099511627776:=hS.len
     rw[Zi]
     have b1:Nat.ble ((out.length+1)*40) limit=true:=ble40 (by omega)
     have b2:∀y:El Zb,Nat.ble (((out++[y]).length+1)*40) limit=true:=fun y=>ble40 (by rw[List.length_append];simp;omega)
     simp only[ZfA,Ze,ZR hj,nng,Bool.and_self,if_true,Int.toNat_natCast,ZH hj,Zr (k:=j) (by omega),a1,a2,a4,b1,b2]
     rw[ZO hj]
     unfold accT accI
     have hs:∀y:List (El Zb),y.length≤2→Goes (ZfA (sy,th)) (.jmp (.l13 x (Int.ofNat (List.length x)) ((j+1:Nat):Int) (out++y) (k:Int) (k:Int))) (out++((y++accT k (j+1) (List.drop (j+1) x))++accP (k+1) (th.drop (k+1)))):=fun y hy=>by
      have:=ihj (out++y) (by rw[List.length_append];omega)
      rw[List.append_assoc] at this
      rw[List.append_assoc]
      exact this
     by_cases hr:(ZaI x[j]).2=true <;> by_cases hw:(ZaG x[j]).2=true
     ·simp only[hr,hw,if_true]
      rw[List.append_assoc out]
      exact hs _ (by simp)
     ·simp only[hr,hw,if_true,if_false]
      exact hs _ (by simp)
     ·simp only[hr,hw,if_true,if_false]
      exact hs _ (by simp)
     ·simp only[hr,hw,if_false]
      have:=hs [] (by simp)
      rw[List.append_nil] at this
      exact this
   exact inner 0 (Nat.zero_le _) out (by omega)
 unfold Zul ZC ofC
 simp only[Ze,hkc,if_true,Zbz]
 by_cases h:checkC (sy,th)=0
 ·rw[if_neg (by simp[h]),if_pos h]
  have:=main 0 (Nat.zero_le _) [] (by simp;omega)
  simpa using this
 ·rw[if_pos (by simp[h]),if_neg h]
  exact .leaf
end Go.Ev
end

section
open Go Go.Ev
namespace Go.Ev
noncomputable section
noncomputable def ZwC:Run:=entG Zib Zsq (fun a=>ZnV a.1) (fun a=>ZC a.1)
theorem Zzd:EntOK Go.Proofs.Tryz.prog 35 ZwC:=ZM (tb:=Zt7) (c:=ZsU) ZIM (by kernel_rfl) (by kernel_rfl) (by kernel_rfl) (fun a=>by kernel_rfl) fun ⟨p,_⟩ hk=>Zm (c:=ZsU) (K:=fun v=>(Zsq v,tps (toForms Zib (p,())))) (S:=Zio p) (by kernel_rfl) (ZIR p) (ZJ5 p) (ZLl p hk)
end
end Go.Ev
end

section
open Go Go.Ev
namespace Go.Ev
noncomputable section
def ZdR:Sig:=[(false,(.sl Zb)),(false,(.int .i64)),(false,.bool)]
noncomputable def ZoT:Tbl:=[]
theorem ZBT:∀p∈ZoT,EntOK Go.Proofs.Tryz.prog p.1 p.2:=Zu
noncomputable def Zkh:Code:=Go.Proofs.Tryz.f36.body.getD .skip
def Znn:Tb:=[(4,⟨[1,2,7,10,11,12],[(8,72)]⟩)]
inductive ZhJ where | l4 (h:Int) (out:List Int)
def ZhM (l:List (El Zb)) (t:Int) (write:Bool):ZhJ→JT ZhJ (List Int) |.l4 h out=>.br (decide (h < (Int.ofNat (List.length l)))) (.br ((decide ((0:Int)≤h))&&(decide (h < (Int.ofNat (List.length l))))) (.br ((List.getD l (Int.toNat h) (dflt Zb)).1==t) (.br ((List.getD l (Int.toNat h) (dflt Zb)).2.2.2.2.1==write) (.br (! (List.getD l (Int.toNat h) (dflt Zb)).2.2.2.2.2) (.br (Nat.ble (((List.length out)+1)*8) limit) (.jmp (.l4 (IntKind.i64.wrap (h+(1:Int))) (out++[h]))) (.no)) (.jmp (.l4 (IntKind.i64.wrap (h+(1:Int))) out))) (.jmp (.l4 (IntKind.i64.wrap (h+(1:Int))) out))) (.jmp (.l4 (IntKind.i64.wrap (h+(1:Int))) out))) (.no)) (.leaf out)
def Ztx (l:List (El Zb)) (t:Int) (write:Bool):JT ZhJ (List Int):=.jmp (.l4 (0:Int) [])
def ZjV:List Int→AV:=fun (r:List Int)=>.rw 3 (.int .i64) r
def ZdG (l:List (El Zb)) (t:Int) (write:Bool):ZhJ→Nat×St |.l4 h out=>(4,⟨mkTm 38 [(1,.d (.int .i64) t),(2,.d .bool write),(7,.own 8 0 none),(10,.d (.sl Zb) l),(11,.d (.int .i64) (Int.ofNat (List.length l))),(12,.d (.int .i64) h)],[(8,0,.row 3 (.int .i64) out false)]⟩)
theorem ZBG (l:List (El Zb)) (t:Int) (write:Bool) (L:Lt):entryA Go.Proofs.Tryz.prog (clOf ZoT) Znn Go.Proofs.Tryz.f36 Zkh L (toForms ZdR (l,t,write,()))=(Ztx l t write).run (fun v=>some (ZjV v,tps (toForms ZdR (l,t,write,())))) fun j=>L (ZdG l t write j).1 (ZdG l t write j).2:=by kernel_rfl
theorem ZBV (l:List (El Zb)) (t:Int) (write:Bool):∀(L:Lt) (j:ZhJ),procOf (procsF Go.Proofs.Tryz.prog (clOf ZoT) Znn Go.Proofs.Tryz.f36 Zkh (toForms ZdR (l,t,write,()))) (ZdG l t write j).1 L (ZdG l t write j).2=(ZhM l t write j).run (fun v=>some (ZjV v,tps (toForms ZdR (l,t,write,())))) fun j=>L (ZdG l t write j).1 (ZdG l t write j).2 | L,.l4 h out=>by kernel_rfl
end
end Go.Ev
end

section
open Go
namespace Go.Ev
def plB (l:List (El Zb)) (t:Int) (w:Bool) (k:Nat):Bool:=((List.getD l k (dflt Zb)).1==t)&&((List.getD l k (dflt Zb)).2.2.2.2.1==w)&& ! (List.getD l k (dflt Zb)).2.2.2.2.2
def ZQ (l:List (El Zb)) (t:Int) (write:Bool):List Int:=listOf l.length (plB l t write)
def Zdx (l:List (El Zb)) (t:Int) (write:Bool):Bool:=decide (l.length < 1000000000)
theorem ZEW (l:List (El Zb)) (t:Int) (write:Bool) (hk:Zdx l t write=true):Goes (ZhM l t write) (Ztx l t write) (ZQ l t write):=by
 have hN:=of_decide_eq_true hk
 have outer:∀k,k≤l.length→∀out:List Int,out.length≤k→out++((List.range' k (l.length - k)).filter (plB l t write)).map (fun k:Nat=>(k:Int))=ZQ l t write→
   Goes (ZhM l t write) (.jmp (.l4 (k:Int) out)) (ZQ l t write):=by
  refine down ?_ fun k hk ih=>?_
  ·intro out ho he
   rw[Zi,ZhM,Ze,if_neg (by rw[Zw (Nat.lt_irrefl _)];decide)]
   rw[Nat.sub_self] at he
   simp only[List.range'_zero,List.filter_nil,List.map_nil,List.append_nil] at he
   rw[←he]
   exact .leaf
  ·intro out ho he
   have b1:Nat.ble ((out.length+1)*8) limit=true:=Nat.ble_eq_true_of_le (by unfold limit;omega)
   rw[show l.length - k=(l.length - (k+1))+1 by omega,List.range'_succ,List.filter_cons] at he
   rw[Zi,ZhM]
   simp only[Ze,ZR hk,nng,Bool.and_self,if_true,Int.toNat_natCast,b1,Zr (k:=k) (by omega)]
   obtain ⟨x,hx⟩:∃x,List.getD l k (dflt Zb)=x:=⟨_,rfl⟩
   have hp:plB l t write k=((x.1==t)&&(x.2.2.2.2.1==write)&& ! x.2.2.2.2.2):=by unfold plB;rw[hx]
   rw[hp] at he
   rw[hx]
   cases c1:(x.1==t) with
   | false=>
    rw[c1] at he
    exact ih _ (by omega) he
   | true=>
    cases c2:(x.2.2.2.2.1==write) with
    | false=>
     rw[c1,c2] at he
     exact ih _ (by omega) he
    | true=>
     cases c3:(! (show Bool from x.2.2.2.2.2)) with
     | false=>
      have c3':(! x.2.2.2.2.2)=false:=c3
      rw[c1,c2] at he
      simp only[c3',Bool.and_false,Bool.false_eq_true,if_false] at he ⊢
      exact ih _ (by omega) he
     | true=>
      have c3':(! x.2.2.2.2.2)=true:=c3
      rw[c1,c2] at he
      simp only[c3',Bool.and_true,Bool.true_and,if_true,List.map_cons] at he ⊢
      exact ih _ (by simp;omega) (by rw[List.append_assoc];exact he)
 refine outer 0 (Nat.zero_le _) [] (Nat.zero_le _) ?_
 unfold ZQ listOf
 rw[List.nil_append,List.range_eq_range']
 rfl
end Go.Ev
end

section
open Go Go.Ev
namespace Go.Ev
noncomputable section
noncomputable def Zvl:Run:=entG ZdR ZjV (fun a=>Zdx a.1 a.2.1 a.2.2.1) (fun a=>ZQ a.1 a.2.1 a.2.2.1)
theorem ZBm:EntOK Go.Proofs.Tryz.prog 36 Zvl:=ZM (tb:=Znn) (c:=Zkh) ZBT (by kernel_rfl) (by kernel_rfl) (by kernel_rfl) (fun a=>by kernel_rfl) fun ⟨l,t,write,_⟩ hk=>Zm (c:=Zkh) (K:=fun v=>(ZjV v,tps (toForms ZdR (l,t,write,())))) (S:=ZdG l t write) (by kernel_rfl) (ZBG l t write) (ZBV l t write) (ZEW l t write hk)
end
end Go.Ev
end

section
open Go Go.Ev
namespace Go.Ev
noncomputable section
def Zic:Sig:=[(false,(.int .i64))]
noncomputable def Zwq:Tbl:=[]
theorem ZIP:∀p∈Zwq,EntOK Go.Proofs.Tryz.prog p.1 p.2:=Zu
noncomputable def ZsT:Code:=Go.Proofs.Tryz.f37.body.getD .skip
def Zus:Tb:=[]
def ZCd (n:Int):Empty→JT Empty (Int×List (Int×Int)):=fun j=>nomatch j
def Zzs (n:Int):JT Empty (Int×List (Int×Int)):=.leaf ((maxI n (0:Int)),[])
def Zy (n:Int):Int×List (Int×Int):=((maxI n (0:Int)),[])
theorem ZK2 (n:Int):Goes (ZCd n) (Zzs n) (Zy n):=Goes.leaf
def Zsu:Int×List (Int×Int)→AV:=fun (r:Int×List (Int×Int))=>.bx 98 [.d (.int .i64) r.1,.mv (.int .i64) (.int .u64) r.2]
def Zh7 (n:Int):Empty→Nat×St:=fun j=>nomatch j
theorem ZJp (n:Int) (L:Lt):entryA Go.Proofs.Tryz.prog (clOf Zwq) Zus Go.Proofs.Tryz.f37 ZsT L (toForms Zic (n,()))=(Zzs n).run (fun v=>some (Zsu v,tps (toForms Zic (n,())))) fun j=>L (Zh7 n j).1 (Zh7 n j).2:=by kernel_rfl
theorem ZJE (n:Int):∀(L:Lt) (j:Empty),procOf (procsF Go.Proofs.Tryz.prog (clOf Zwq) Zus Go.Proofs.Tryz.f37 ZsT (toForms Zic (n,()))) (Zh7 n j).1 L (Zh7 n j).2=(ZCd n j).run (fun v=>some (Zsu v,tps (toForms Zic (n,())))) fun j=>L (Zh7 n j).1 (Zh7 n j).2:=fun L j=>nomatch j
noncomputable def Zkt:Run:=entT Zic Zsu (fun a=>Zy a.1)
theorem Zln:EntOK Go.Proofs.Tryz.prog 37 Zkt:=Zat (tb:=Zus) (c:=ZsT) ZIP (by kernel_rfl) (by kernel_rfl) (by kernel_rfl) (fun a=>by kernel_rfl) fun ⟨n,_⟩=>Zm (c:=ZsT) (K:=fun v=>(Zsu v,tps (toForms Zic (n,())))) (S:=Zh7 n) (by kernel_rfl) (ZJp n) (ZJE n) (ZK2 n)
end
end Go.Ev
end

section
open Go Go.Ev
namespace Go.Ev
noncomputable section
def ZfL:Sig:=[(true,(.sl Za)),(false,.str)]
noncomputable def Zr4:Tbl:=[]
theorem ZDk:∀p∈Zr4,EntOK Go.Proofs.Tryz.prog p.1 p.2:=Zu
noncomputable def ZmD:Code:=Go.Proofs.Tryz.f87.body.getD .skip
def Zpf:Tb:=[(3,⟨[1,10,11,12],[]⟩),(9,⟨[1,5,10,11,12,18,19,20],[]⟩)]
inductive Zi9 where | l3 (h:Int) | l9 (h:List ByteArray) (h1:Int) (h2:Int) (k:Int) (h3:Int)
def Zdf (t:List (El Za)) (label:ByteArray):Zi9→JT Zi9 (Int) |.l3 h=>.br (decide (h < (Int.ofNat (List.length t)))) (.br ((decide ((0:Int)≤h))&&(decide (h < (Int.ofNat (List.length t))))) (.jmp (.l9 (List.getD t (Int.toNat h) (dflt Za)).2.2.2.2.2.2 (Int.ofNat (List.length (List.getD t (Int.toNat h) (dflt Za)).2.2.2.2.2.2)) (0:Int) h h)) (.no)) (.leaf (-1:Int)) |.l9 h h1 h2 k h3=>.br (decide (h2 < h1)) (.br ((decide ((0:Int)≤h2))&&(decide (h2 < (Int.ofNat (List.length h))))) (.br (eqB (List.getD h (Int.toNat h2) (dflt .str)) label) (.leaf k) (.jmp (.l9 h h1 (IntKind.i64.wrap (h2+(1:Int))) k h3))) (.no)) (.jmp (.l3 (IntKind.i64.wrap (h3+(1:Int)))))
def ZoU (t:List (El Za)) (label:ByteArray):JT Zi9 (Int):=.jmp (.l3 (0:Int))
def Zml:Int→AV:=fun (r:Int)=>.d (.int .i64) r
def ZeB (t:List (El Za)) (label:ByteArray):Zi9→Nat×St |.l3 h=>(3,⟨mkTm 30 [(1,.d .str label),(10,.d (.sl Za) t),(11,.d (.int .i64) (Int.ofNat (List.length t))),(12,.d (.int .i64) h)],[]⟩) |.l9 h h1 h2 k h3=>(9,⟨mkTm 30 [(1,.d .str label),(5,.d (.int .i64) k),(10,.d (.sl Za) t),(11,.d (.int .i64) (Int.ofNat (List.length t))),(12,.d (.int .i64) h3),(18,.d (.sl .str) h),(19,.d (.int .i64) h1),(20,.d (.int .i64) h2)],[]⟩)
theorem ZFp (t:List (El Za)) (label:ByteArray) (L:Lt):entryA Go.Proofs.Tryz.prog (clOf Zr4) Zpf Go.Proofs.Tryz.f87 ZmD L (toForms ZfL (t,label,()))=(ZoU t label).run (fun v=>some (Zml v,tps (toForms ZfL (t,label,())))) fun j=>L (ZeB t label j).1 (ZeB t label j).2:=by kernel_rfl
theorem ZEX (t:List (El Za)) (label:ByteArray):∀(L:Lt) (j:Zi9),procOf (procsF Go.Proofs.Tryz.prog (clOf Zr4) Zpf Go.Proofs.Tryz.f87 ZmD (toForms ZfL (t,label,()))) (ZeB t label j).1 L (ZeB t label j).2=(Zdf t label j).run (fun v=>some (Zml v,tps (toForms ZfL (t,label,())))) fun j=>L (ZeB t label j).1 (ZeB t label j).2 | L,.l3 h=>by kernel_rfl | L,.l9 h h1 h2 k h3=>by kernel_rfl
end
end Go.Ev
end

section
open Go
namespace Go.Ev
def ZaW (t:List (El Za)) (label:ByteArray):Int:=findI label t 0
def Zjg (t:List (El Za)) (label:ByteArray):Bool:=decide (t.length < 1099511627776)&&t.all fun i=>decide (i.2.2.2.2.2.2.length < 1099511627776)
theorem ZIm (t:List (El Za)) (label:ByteArray) (hk:Zjg t label=true):Goes (Zdf t label) (ZoU t label) (ZaW t label):=by
 unfold Zjg at hk
 simp only[Bool.and_eq_true,decide_eq_true_eq,List.all_eq_true] at hk
 obtain ⟨hn,hl⟩:=hk
 have loop:∀k,k≤t.length→Goes (Zdf t label) (.jmp (.l3 (k:Int))) (findI label (t.drop k) k):=by
  refine down ?_ fun k hk ih=>?_
  ·rw[Zi]
   simp only[Zdf,Ze,Zw (Nat.lt_irrefl _),ZS,List.drop_length]
   simp[findI]
  ·have hli:=hl t[k] (List.getElem_mem hk)
   rw[Zi]
   simp only[Zdf,Ze,ZR hk,nng,Bool.and_self,if_true,Int.toNat_natCast,ZH hk]
   rw[ZO hk]
   unfold findI
   generalize t[k].2.2.2.2.2.2=ls at hli
   have inner:∀j,j≤ls.length→Goes (Zdf t label) (.jmp (.l9 ls (Int.ofNat ls.length) (j:Int) (k:Int) (k:Int))) (if (ls.drop j).contains label then (k:Int) else findI label (t.drop (k+1)) (k+1)):=by
    refine down ?_ fun j hj ihj=>?_
    ·rw[Zi]
     simp only[Zdf,Ze,Zw (Nat.lt_irrefl _),Zr (k:=k) (by omega),List.drop_length]
     simpa using ih
    ·rw[Zi]
     simp only[Zdf,Ze,ZR hj,nng,Bool.and_self,if_true,Int.toNat_natCast,ZH hj,Zr (k:=j) (by omega),ZrS]
     rw[ZO hj,List.contains_cons]
     by_cases h:ls[j]=label
     ·rw[if_pos h];subst h;simp[ZS]
     ·rw[if_neg h,beq_false_of_ne (Ne.symm h),Bool.false_or]
      exact ihj
   simpa using inner 0 (Nat.zero_le _)
 unfold ZoU ZaW
 simpa using loop 0 (Nat.zero_le _)
end Go.Ev
end

section
open Go Go.Ev
namespace Go.Ev
noncomputable section
noncomputable def ZwY:Run:=entG ZfL Zml (fun a=>Zjg a.1 a.2.1) (fun a=>ZaW a.1 a.2.1)
theorem ZEi:EntOK Go.Proofs.Tryz.prog 87 ZwY:=ZM (tb:=Zpf) (c:=ZmD) ZDk (by kernel_rfl) (by kernel_rfl) (by kernel_rfl) (fun a=>by kernel_rfl) fun ⟨t,label,_⟩ hk=>Zm (c:=ZmD) (K:=fun v=>(Zml v,tps (toForms ZfL (t,label,())))) (S:=ZeB t label) (by kernel_rfl) (ZFp t label) (ZEX t label) (ZIm t label hk)
end
end Go.Ev
end

section
open Go Go.Ev
namespace Go.Ev
noncomputable section
def Zg1:Sig:=[(true,(.sl Za)),(false,(.int .i64))]
noncomputable def ZtE:Tbl:=[(85,ZtO),(87,ZwY)]
theorem ZHz:∀p∈ZtE,EntOK Go.Proofs.Tryz.prog p.1 p.2:=Zg ZwW (Zg ZEi (Zu))
noncomputable def ZpL:Code:=Go.Proofs.Tryz.f61.body.getD .skip
def ZqS:Tb:=[(12,⟨[1,5,8,55,68,76],[(9,72)]⟩),(14,⟨[5,8,78],[]⟩),(hintK,⟨[],[(1,72)]⟩)]
inductive ZkA where | l12 (to_:Int) (out:List Int) (h:Bool) | l14 (to_:Int) (out:List Int) (h:Bool)
def Zgy (t:List (El Za)) (i:Int):ZkA→JT ZkA (List Int) |.l12 to_ out h=>.br h (.br (Nat.ble (((List.length out)+1)*8) limit) (.br (decide (to_ > i)) (.br ((Int.ofNat (List.length (out++[(IntKind.i64.wrap (i+(1:Int)))])))==(0:Int)) (.jmp (.l14 to_ (out++[(IntKind.i64.wrap (i+(1:Int)))]) true)) (.br ((decide ((0:Int)≤(IntKind.i64.wrap ((Int.ofNat (List.length (out++[(IntKind.i64.wrap (i+(1:Int)))]))) - (1:Int)))))&&(decide ((IntKind.i64.wrap ((Int.ofNat (List.length (out++[(IntKind.i64.wrap (i+(1:Int)))]))) - (1:Int))) < (Int.ofNat (List.length (out++[(IntKind.i64.wrap (i+(1:Int)))])))))) (.jmp (.l14 to_ (out++[(IntKind.i64.wrap (i+(1:Int)))]) ((List.getD (out++[(IntKind.i64.wrap (i+(1:Int)))]) (Int.toNat (IntKind.i64.wrap ((Int.ofNat (List.length (out++[(IntKind.i64.wrap (i+(1:Int)))]))) - (1:Int)))) (dflt (.int .i64))) !=to_))) (.no))) (.jmp (.l14 to_ (out++[(IntKind.i64.wrap (i+(1:Int)))]) false))) (.no)) (.br (decide (to_ > i)) (.br ((Int.ofNat (List.length out))==(0:Int)) (.jmp (.l14 to_ out true)) (.br ((decide ((0:Int)≤(IntKind.i64.wrap ((Int.ofNat (List.length out)) - (1:Int)))))&&(decide ((IntKind.i64.wrap ((Int.ofNat (List.length out)) - (1:Int))) < (Int.ofNat (List.length out))))) (.jmp (.l14 to_ out ((List.getD out (Int.toNat (IntKind.i64.wrap ((Int.ofNat (List.length out)) - (1:Int)))) (dflt (.int .i64))) !=to_))) (.no))) (.jmp (.l14 to_ out false))) |.l14 to_ out h=>.br h (.br (Nat.ble (((List.length out)+1)*8) limit) (.leaf (out++[to_])) (.no)) (.leaf out)
def Zq0 (t:List (El Za)) (i:Int):JT ZkA (List Int):=.br (decide (i < (0:Int))) (.leaf []) (.br (decide (i≥(Int.ofNat (List.length t)))) (.leaf []) (.br ((decide ((0:Int)≤i))&&(decide (i < (Int.ofNat (List.length t))))) (.br (Zdz (List.getD t (Int.toNat i) (dflt Za))) (.br (ZaJ (List.getD t (Int.toNat i) (dflt Za))).2 (.br ((decide ((0:Int)≤i))&&(decide (i < (Int.ofNat (List.length t))))) (.br (Zjg t (List.getD t (Int.toNat i) (dflt Za)).2.2.2.2.2.1) (.br (decide ((ZaW t (List.getD t (Int.toNat i) (dflt Za)).2.2.2.2.2.1)≥(0:Int))) (.br (decide ((ZaW t (List.getD t (Int.toNat i) (dflt Za)).2.2.2.2.2.1)≤i)) (.br (ZaJ (List.getD t (Int.toNat i) (dflt Za))).1 (.jmp (.l12 (ZaW t (List.getD t (Int.toNat i) (dflt Za)).2.2.2.2.2.1) [(ZaW t (List.getD t (Int.toNat i) (dflt Za)).2.2.2.2.2.1)] (decide ((IntKind.i64.wrap (i+(1:Int))) < (Int.ofNat (List.length t)))))) (.jmp (.l12 (ZaW t (List.getD t (Int.toNat i) (dflt Za)).2.2.2.2.2.1) [(ZaW t (List.getD t (Int.toNat i) (dflt Za)).2.2.2.2.2.1)] false))) (.br (ZaJ (List.getD t (Int.toNat i) (dflt Za))).1 (.jmp (.l12 (ZaW t (List.getD t (Int.toNat i) (dflt Za)).2.2.2.2.2.1) [] (decide ((IntKind.i64.wrap (i+(1:Int))) < (Int.ofNat (List.length t)))))) (.jmp (.l12 (ZaW t (List.getD t (Int.toNat i) (dflt Za)).2.2.2.2.2.1) [] false)))) (.br (ZaJ (List.getD t (Int.toNat i) (dflt Za))).1 (.jmp (.l12 (ZaW t (List.getD t (Int.toNat i) (dflt Za)).2.2.2.2.2.1) [] (decide ((IntKind.i64.wrap (i+(1:Int))) < (Int.ofNat (List.length t)))))) (.jmp (.l12 (ZaW t (List.getD t (Int.toNat i) (dflt Za)).2.2.2.2.2.1) [] false)))) (.no)) (.no)) (.br (ZaJ (List.getD t (Int.toNat i) (dflt Za))).1 (.jmp (.l12 (-1:Int) [] (decide ((IntKind.i64.wrap (i+(1:Int))) < (Int.ofNat (List.length t)))))) (.jmp (.l12 (-1:Int) [] false)))) (.no)) (.no)))
def Zox:List Int→AV:=fun (r:List Int)=>.rw 3 (.int .i64) r
def ZgL (t:List (El Za)) (i:Int):ZkA→Nat×St |.l12 to_ out h=>(12,⟨mkTm 84 [(1,.d (.int .i64) i),(5,.d (.int .i64) to_),(8,.own 9 0 none),(55,.d .bool h)],[(9,0,.row 3 (.int .i64) out false)]⟩) |.l14 to_ out h=>(14,⟨mkTm 84 [(5,.d (.int .i64) to_),(8,.own 9 0 none),(78,.d .bool h)],[(9,0,.row 3 (.int .i64) out false)]⟩)
theorem ZGC (t:List (El Za)) (i:Int) (L:Lt):entryA Go.Proofs.Tryz.prog (clOf ZtE) ZqS Go.Proofs.Tryz.f61 ZpL L (toForms Zg1 (t,i,()))=(Zq0 t i).run (fun v=>some (Zox v,tps (toForms Zg1 (t,i,())))) fun j=>L (ZgL t i j).1 (ZgL t i j).2:=by kernel_rfl
theorem ZIB (t:List (El Za)) (i:Int):∀(L:Lt) (j:ZkA),procOf (procsF Go.Proofs.Tryz.prog (clOf ZtE) ZqS Go.Proofs.Tryz.f61 ZpL (toForms Zg1 (t,i,()))) (ZgL t i j).1 L (ZgL t i j).2=(Zgy t i j).run (fun v=>some (Zox v,tps (toForms Zg1 (t,i,())))) fun j=>L (ZgL t i j).1 (ZgL t i j).2 | L,.l12 to_ out h=>by kernel_rfl | L,.l14 to_ out h=>by kernel_rfl
end
end Go.Ev
end

section
open Go
namespace Go.Ev
def Z8 (t:List (El Za)) (i:Int):List Int:=listOf t.length (nextB t i)
def ZeJ (t:List (El Za)) (i:Int):Bool:=flowOK t
theorem ZzN {t:List (El Za)} {i:Int} (h:¬(0≤i∧i < (t.length:Int))):listOf t.length (nextB t i)=[]:=by
 unfold listOf
 rw[List.map_eq_nil_iff,List.filter_eq_nil_iff]
 intro j _ hb
 unfold nextB at hb
 rw[Bool.and_eq_true] at hb
 have:=of_decide_eq_true hb.1
 exact h ⟨this.1,this.2.1⟩
theorem ZJc (t:List (El Za)) (i:Int) (hk:ZeJ t i=true):Goes (Zgy t i) (Zq0 t i) (Z8 t i):=by
 have hlen:=Zby hk
 unfold Zq0 Z8
 rw[Ze]
 by_cases h0:i < 0
 ·rw[if_pos (decide_eq_true h0),ZzN (fun h=>by omega)];exact .leaf
 rw[if_neg (by simpa using h0),Ze]
 obtain ⟨j,rfl⟩:=Int.eq_ofNat_of_zero_le (show 0≤i by omega)
 by_cases h1:(t.length:Int)≤(j:Int)
 ·rw[if_pos (decide_eq_true (show (j:Int)≥Int.ofNat t.length from h1)),ZzN (fun h=>by omega)];exact .leaf
 have hj:j < t.length:=by omega
 rw[if_neg (by simp;omega),Ze,if_pos (Zaq hj),Ze,Int.toNat_natCast]
 rw[←ZKd hj]
 have hmem:t.getD j (dflt Za)∈t:=by rw[ZH hj];exact List.getElem_mem hj
 have kl:Zdz (t.getD j (dflt Za))=true:=ZMP (ZoB hk hmem)
 have kf:Zjg t (t.getD j (dflt Za)).2.2.2.2.2.1=true:=ZAv hk
 have vf:ZaW t (t.getD j (dflt Za)).2.2.2.2.2.1=findI (t.getD j (dflt Za)).2.2.2.2.2.1 t 0:=rfl
 rw[if_pos kl]
 have hw:IntKind.i64.wrap ((j:Int)+1)=(j:Int)+1:=by rw[wrap_i64 (by omega) (by omega)]
 have l14:∀(to:Int) (out:List Int) (h:Bool),out.length≤3→Goes (Zgy t (j:Int)) (.jmp (.l14 to out h)) (out++if h=true then [to] else []):=by
  intro to out h ho
  rw[Zi,Zgy,Ze]
  cases h with
  | true=>
   rw[if_pos rfl,Ze,if_pos (Nat.ble_eq_true_of_le (by unfold limit;omega)),if_pos rfl];exact .leaf
  | false=>rw[if_neg (by decide),if_neg (by decide),List.append_nil];exact .leaf
 have last:∀(out:List Int) (x:Int),out.length≤1→(decide ((0:Int)≤IntKind.i64.wrap (Int.ofNat (out++[x]).length - 1))&&decide (IntKind.i64.wrap (Int.ofNat (out++[x]).length - 1) < Int.ofNat (out++[x]).length))=true∧List.getD (out++[x]) (IntKind.i64.wrap (Int.ofNat (out++[x]).length - 1)).toNat (dflt (.int .i64))=x:=by
  intro out x ho
  have e:IntKind.i64.wrap (Int.ofNat (out++[x]).length - 1)=(out.length:Int):=by
   rw[List.length_append,List.length_singleton,wrap_i64 (by simp <;> omega) (by simp <;> omega)]
   simp
  rw[e]
  refine ⟨by simp;omega,?_⟩
  rw[Int.toNat_natCast]
  simp[List.getD]
 have l12:∀(to:Int) (h:Bool), -1≤to→(h=true→(j:Int)+1 < t.length)→Goes (Zgy t (j:Int)) (.jmp (.l12 to (if 0≤to∧to≤(j:Int) then [to] else []) h)) (nextL t.length h to (j:Int)):=by
  intro to h hto hh
  rw[Zi,Zgy]
  unfold nextL
  generalize hout:(if 0≤to∧to≤(j:Int) then [to] else [])=out
  have hol:out.length≤1:=by rw[←hout];split <;> simp
  rw[Ze]
  cases h with
  | true=>
   rw[if_pos rfl,Ze,if_pos (Nat.ble_eq_true_of_le (by unfold limit;omega)),Ze,hw]
   have hin:=hh rfl
   obtain ⟨b1,b2⟩:=last out ((j:Int)+1) hol
   rw[if_pos (show true=true∧(j:Int)+1 < (t.length:Int) from ⟨rfl,hin⟩)]
   by_cases hgt:to > (j:Int)
   ·rw[if_pos (decide_eq_true hgt),Ze,if_neg (by simp;omega),Ze,if_pos b1,b2]
    have:=l14 to (out++[(j:Int)+1]) ((j:Int)+1 !=to) (by simp;omega)
    rw[List.append_assoc] at this
    by_cases he:to=(j:Int)+1
    ·rw[if_neg (by simp[he]),List.append_nil] at this
     rw[if_neg (fun h=>h.2 ⟨rfl,hin,he⟩),List.append_nil]
     exact this
    ·rw[if_pos (by simp;omega)] at this
     rw[if_pos ⟨hgt,fun h=>he h.2.2⟩]
     exact this
   ·rw[if_neg (by simpa using hgt),if_neg (fun h=>hgt h.1),List.append_nil]
    have:=l14 to (out++[(j:Int)+1]) false (by simp;omega)
    rwa[if_neg (by decide),List.append_nil] at this
  | false=>
   rw[if_neg (by decide),Ze,if_neg (c:=false=true∧(j:Int)+1 < (t.length:Int)) (fun h=>by cases h.1),List.nil_append]
   by_cases hgt:to > (j:Int)
   ·have he:out=[]:=by rw[←hout,if_neg (fun h=>by omega)]
    subst he
    rw[if_pos (decide_eq_true hgt),Ze,if_pos (show (Int.ofNat ([]:List Int).length==0)=true from rfl),if_pos ⟨hgt,fun h=>by cases h.1⟩]
    have:=l14 to [] true (by simp)
    rwa[if_pos rfl] at this
   ·rw[if_neg (by simpa using hgt),if_neg (fun h=>hgt h.1),List.append_nil]
    have:=l14 to out false (by omega)
    rwa[if_neg (by decide),List.append_nil] at this
 have key:∀(on:Bool) (to:Int),nextL t.length (bif on then decide ((j:Int)+1 < Int.ofNat t.length) else false) to (j:Int)=nextL t.length on to (j:Int):=by
  intro on to
  cases on with
  | false=>rfl
  | true=>
   show nextL t.length (decide ((j:Int)+1 < Int.ofNat t.length)) to (j:Int)=nextL t.length true to (j:Int)
   by_cases hin:(j:Int)+1 < (t.length:Int)
   ·rw[decide_eq_true (show (j:Int)+1 < Int.ofNat t.length from hin)]
   ·rw[decide_eq_false (show ¬(j:Int)+1 < Int.ofNat t.length from hin)]
    unfold nextL
    rw[if_neg (c:=false=true∧(j:Int)+1 < (t.length:Int)) (fun h=>by cases h.1),if_neg (c:=true=true∧(j:Int)+1 < (t.length:Int)) (fun h=>hin h.2)]
    by_cases hgt:to > (j:Int)
    ·rw[if_pos (c:=to > (j:Int)∧¬(false=true∧(j:Int)+1 < (t.length:Int)∧to=(j:Int)+1)) ⟨hgt,fun h=>by cases h.1⟩,if_pos (c:=to > (j:Int)∧¬(true=true∧(j:Int)+1 < (t.length:Int)∧to=(j:Int)+1)) ⟨hgt,fun h=>hin h.2.1⟩]
    ·rw[if_neg (c:=to > (j:Int)∧¬(false=true∧(j:Int)+1 < (t.length:Int)∧to=(j:Int)+1)) (fun h=>hgt h.1),if_neg (c:=to > (j:Int)∧¬(true=true∧(j:Int)+1 < (t.length:Int)∧to=(j:Int)+1)) (fun h=>hgt h.1)]
 have both:∀(on:Bool) (to:Int) (out:List Int), -1≤to→out=(if 0≤to∧to≤(j:Int) then [to] else [])→Goes (Zgy t (j:Int)) (.br on (.jmp (.l12 to out (decide (IntKind.i64.wrap ((j:Int)+1) < Int.ofNat t.length)))) (.jmp (.l12 to out false))) (nextL t.length on to (j:Int)):=by
  intro on to out hto hout
  subst hout
  rw[Ze,←key,hw]
  cases on with
  | true=>
   rw[if_pos rfl,cond_true]
   exact l12 to _ hto fun h=>of_decide_eq_true h
  | false=>
   rw[if_neg (by decide),cond_false]
   exact l12 to _ hto fun h=>by cases h
 have hr:= @ZJP t j
 rw[Ze]
 unfold onOf
 by_cases hjmp:(ZaJ (t.getD j (dflt Za))).2=true
 ·have hto:toOf t j=findI (t.getD j (dflt Za)).2.2.2.2.2.1 t 0:=by unfold toOf;rw[if_pos hjmp]
  rw[hto] at hr
  rw[if_pos hjmp,Ze,if_pos (Zaq hj),Ze,if_pos kf,Ze,vf,hto]
  generalize findI (t.getD j (dflt Za)).2.2.2.2.2.1 t 0=to at hr
  by_cases h2:to≥0
  ·rw[if_pos (decide_eq_true h2),Ze]
   by_cases h3:to≤(j:Int)
   ·rw[if_pos (decide_eq_true h3)]
    exact both _ to _ hr.1 (by rw[if_pos ⟨h2,h3⟩])
   ·rw[if_neg (by simpa using h3)]
    exact both _ to _ hr.1 (by rw[if_neg (fun h=>h3 h.2)])
  ·rw[if_neg (by simpa using h2)]
   exact both _ to _ hr.1 (by rw[if_neg (fun h=>h2 h.1)])
 ·have hto:toOf t j= -1:=by unfold toOf;rw[if_neg hjmp]
  rw[if_neg hjmp,hto]
  exact both _ (-1) _ (by omega) (by rw[if_neg (fun h=>by omega)])
end Go.Ev
end

section
open Go Go.Ev
namespace Go.Ev
noncomputable section
noncomputable def Zuq:Run:=entG Zg1 Zox (fun a=>ZeJ a.1 a.2.1) (fun a=>Z8 a.1 a.2.1)
theorem ZwU:EntOK Go.Proofs.Tryz.prog 61 Zuq:=ZM (tb:=ZqS) (c:=ZpL) ZHz (by kernel_rfl) (by kernel_rfl) (by kernel_rfl) (fun a=>by kernel_rfl) fun ⟨t,i,_⟩ hk=>Zm (c:=ZpL) (K:=fun v=>(Zox v,tps (toForms Zg1 (t,i,())))) (S:=ZgL t i) (by kernel_rfl) (ZGC t i) (ZIB t i) (ZJc t i hk)
end
end Go.Ev
end

section
open Go Go.Ev
namespace Go.Ev
noncomputable section
noncomputable def Zra:Tbl:=[]
theorem Zx3:∀p∈Zra,EntOK Go.Proofs.Tryz.prog p.1 p.2:=Zu
noncomputable def ZzR:Code:=Go.Proofs.Tryz.f63.body.getD .skip
noncomputable def ZkN:Run:=entE Go.Proofs.Tryz.prog Zra Go.Proofs.Tryz.f63 ZzR
theorem Zqr:EntOK Go.Proofs.Tryz.prog 63 ZkN:=ZIT Zx3 (by kernel_rfl) (by kernel_rfl) (by kernel_rfl) (fun xs=>by kernel_rfl)
end
end Go.Ev
end

section
open Go Go.Ev
namespace Go.Ev
noncomputable section
def Zlb:PSig:=[.obj 98 [(.d (.int .i64)),(.m (.int .i64) (.int .u64))],.dat false (.int .i64)]
noncomputable def Znv:Tbl:=[(63,ZkN)]
theorem Zy1:∀p∈Znv,EntOK Go.Proofs.Tryz.prog p.1 p.2:=Zg Zqr (Zu)
noncomputable def Zf6:Code:=Go.Proofs.Tryz.f40.body.getD .skip
def Zk6:Tb:=[]
def Ztz (s:Int×List (Int×Int)) (i:Int):Empty→JT Empty (Bool×Int×List (Int×Int)):=fun j=>nomatch j
def Zk8 (s:Int×List (Int×Int)) (i:Int):JT Empty (Bool×Int×List (Int×Int)):=.br (decide (i≥(0:Int))) (.br (decide (i < s.1)) (.br (decide ((IntKind.u64.wrap (Int.tmod i (64:Int))) < (0:Int))) (.no) (.leaf (((bitAnd IntKind.u64 (Int.fdiv (Option.getD (mget (kt:=(.int .i64)) (IntKind.i64.wrap (Int.tdiv i (64:Int))) s.2) (0:Int)) (2 ^ (min (Int.toNat (IntKind.u64.wrap (Int.tmod i (64:Int)))) (IntKind.u64).bits))) (1:Int))==(1:Int)),s))) (.leaf (false,s))) (.leaf (false,s))
def Zf4:Bool×Int×List (Int×Int)→Ans:=fun (r:Bool×Int×List (Int×Int))=>(.d .bool r.1,[.bx 98 [.d (.int .i64) r.2.1,.mv (.int .i64) (.int .u64) r.2.2],.top])
def ZcH (s:Int×List (Int×Int)) (i:Int):Empty→Nat×St:=fun j=>nomatch j
theorem ZzL (s:Int×List (Int×Int)) (i:Int) (L:Lt):entryA Go.Proofs.Tryz.prog (clOf Znv) Zk6 Go.Proofs.Tryz.f40 Zf6 L (toPs Zlb (s,i,()))=(Zk8 s i).run (fun v=>some (Zf4 v)) fun j=>L (ZcH s i j).1 (ZcH s i j).2:=by kernel_rfl
theorem ZAC (s:Int×List (Int×Int)) (i:Int):∀(L:Lt) (j:Empty),procOf (procsF Go.Proofs.Tryz.prog (clOf Znv) Zk6 Go.Proofs.Tryz.f40 Zf6 (toPs Zlb (s,i,()))) (ZcH s i j).1 L (ZcH s i j).2=(Ztz s i j).run (fun v=>some (Zf4 v)) fun j=>L (ZcH s i j).1 (ZcH s i j).2:=fun L j=>nomatch j
end
end Go.Ev
end

section
open Go
namespace Go.Ev
def Zo (s:Int×List (Int×Int)) (i:Int):Bool×Int×List (Int×Int):=(hasS s i,s)
theorem ZAI (s:Int×List (Int×Int)) (i:Int):Goes (Ztz s i) (Zk8 s i) (Zo s i):=by
 unfold Zk8 Zo hasS
 rw[Ze]
 by_cases h0:i≥0
 ·rw[if_pos (decide_eq_true h0),Ze,decide_eq_true h0,Bool.true_and]
  by_cases h1:i < s.1
  ·rw[if_pos (decide_eq_true h1),Ze,if_neg (by rw[ZxO];decide),decide_eq_true h1,Bool.true_and]
   exact .leaf
  ·rw[if_neg (by simpa using h1),decide_eq_false h1,Bool.false_and]
   exact .leaf
 ·rw[if_neg (by simpa using h0),decide_eq_false h0,Bool.false_and]
  exact .leaf
end Go.Ev
end

section
open Go Go.Ev
namespace Go.Ev
noncomputable section
noncomputable def Zf0:Run:=entO Zlb Zf4 (fun a=>true) (fun a=>Zo a.1 a.2.1)
theorem ZeH:EntOK Go.Proofs.Tryz.prog 40 Zf0:=ZIH (tb:=Zk6) (c:=Zf6) (Zoi (ZiX (fn:=Go.Proofs.Tryz.f40) (c:=Zf6) (by kernel_rfl) (by kernel_rfl) (by kernel_rfl))) Zy1 (by kernel_rfl) (by kernel_rfl) (fun a=>by kernel_rfl) fun ⟨s,i,_⟩ hk=>Zm (c:=Zf6) (K:=Zf4) (S:=ZcH s i) (by kernel_rfl) (ZzL s i) (ZAC s i) (ZAI s i)
end
end Go.Ev
end

section
open Go Go.Ev
namespace Go.Ev
noncomputable section
def Zk5:PSig:=[.obj 98 [(.d (.int .i64)),(.m (.int .i64) (.int .u64))],.dat false (.int .i64)]
noncomputable def Znf:Tbl:=[(63,ZkN),(40,Zf0)]
theorem Zz7:∀p∈Znf,EntOK Go.Proofs.Tryz.prog p.1 p.2:=Zg Zqr (Zg ZeH (Zu))
noncomputable def Zf1:Code:=Go.Proofs.Tryz.f39.body.getD .skip
def Zlr:Tb:=[]
def Ztn (s:Int×List (Int×Int)) (i:Int):Empty→JT Empty (Bool×Int×List (Int×Int)):=fun j=>nomatch j
def Zlx (s:Int×List (Int×Int)) (i:Int):JT Empty (Bool×Int×List (Int×Int)):=.br (decide (i < (0:Int))) (.leaf (false,s)) (.br (decide (i≥s.1)) (.leaf (false,s)) (.br (Zo s i).1 (.leaf (false,(Zo s i).2)) (.br (decide ((IntKind.u64.wrap (Int.tmod i (64:Int))) < (0:Int))) (.no) (.leaf (true,((Zo s i).2.1,(mput (kt:=(.int .i64)) (IntKind.i64.wrap (Int.tdiv i (64:Int))) (bitOr IntKind.u64 (Option.getD (mget (kt:=(.int .i64)) (IntKind.i64.wrap (Int.tdiv i (64:Int))) (Zo s i).2.2) (0:Int)) (IntKind.u64.wrap ((1:Int)*(2 ^ (min (Int.toNat (IntKind.u64.wrap (Int.tmod i (64:Int)))) (IntKind.u64).bits))))) (Zo s i).2.2)))))))
def Zf7:Bool×Int×List (Int×Int)→Ans:=fun (r:Bool×Int×List (Int×Int))=>(.d .bool r.1,[.bx 98 [.d (.int .i64) r.2.1,.mv (.int .i64) (.int .u64) r.2.2],.top])
def ZcK (s:Int×List (Int×Int)) (i:Int):Empty→Nat×St:=fun j=>nomatch j
theorem ZyI (s:Int×List (Int×Int)) (i:Int) (L:Lt):entryA Go.Proofs.Tryz.prog (clOf Znf) Zlr Go.Proofs.Tryz.f39 Zf1 L (toPs Zk5 (s,i,()))=(Zlx s i).run (fun v=>some (Zf7 v)) fun j=>L (ZcK s i j).1 (ZcK s i j).2:=by kernel_rfl
theorem Zzm (s:Int×List (Int×Int)) (i:Int):∀(L:Lt) (j:Empty),procOf (procsF Go.Proofs.Tryz.prog (clOf Znf) Zlr Go.Proofs.Tryz.f39 Zf1 (toPs Zk5 (s,i,()))) (ZcK s i j).1 L (ZcK s i j).2=(Ztn s i j).run (fun v=>some (Zf7 v)) fun j=>L (ZcK s i j).1 (ZcK s i j).2:=fun L j=>nomatch j
end
end Go.Ev
end

section
open Go
namespace Go.Ev
def Zp (s:Int×List (Int×Int)) (i:Int):Bool×Int×List (Int×Int):=putS s i
theorem ZBX (s:Int×List (Int×Int)) (i:Int):Goes (Ztn s i) (Zlx s i) (Zp s i):=by
 unfold Zlx Zp putS
 simp only[Zo]
 rw[Ze]
 by_cases h0:i < 0
 ·rw[if_pos (decide_eq_true h0),if_pos (.inl h0)];exact .leaf
 ·rw[if_neg (by simpa using h0),Ze]
  by_cases h1:i≥s.1
  ·rw[if_pos (decide_eq_true h1),if_pos (.inr (.inl h1))];exact .leaf
  ·rw[if_neg (by simpa using h1),Ze]
   by_cases h2:hasS s i=true
   ·rw[if_pos h2,if_pos (.inr (.inr h2))];exact .leaf
   ·rw[if_neg h2,Ze,if_neg (by rw[ZxO];decide),if_neg (by intro h;rcases h with h | h | h <;> first | exact h0 h | exact h1 h | exact h2 h)]
    exact .leaf
end Go.Ev
end

section
open Go Go.Ev
namespace Go.Ev
noncomputable section
noncomputable def ZcN:Run:=entO Zk5 Zf7 (fun a=>true) (fun a=>Zp a.1 a.2.1)
theorem Zb6:EntOK Go.Proofs.Tryz.prog 39 ZcN:=ZIH (tb:=Zlr) (c:=Zf1) (Zoi (ZiX (fn:=Go.Proofs.Tryz.f39) (c:=Zf1) (by kernel_rfl) (by kernel_rfl) (by kernel_rfl))) Zz7 (by kernel_rfl) (by kernel_rfl) (fun a=>by kernel_rfl) fun ⟨s,i,_⟩ hk=>Zm (c:=Zf1) (K:=Zf7) (S:=ZcK s i) (by kernel_rfl) (ZyI s i) (Zzm s i) (ZBX s i)
end
end Go.Ev
end

section
open Go Go.Ev
namespace Go.Ev
noncomputable section
def Zej:PSig:=[.obj 98 [(.d (.int .i64)),(.m (.int .i64) (.int .u64))]]
noncomputable def Zn1:Tbl:=[]
noncomputable def Ziz:Code:=match Go.Proofs.Tryz.f62.body with | some (.seq _ (.seq _ (.seq _ (.seq _ (.seq _ d)))))=>d | _=>.skip
def Zbj:Tb:=[(2,⟨[0,4,26,27,28],[(5,72)]⟩),(8,⟨[0,4,7,8,26,27,28],[(5,72)]⟩)]
inductive Zc7 where | l2 (h:Int) (h1:List Int) (h2:Int) (out:List Int) | l8 (k:Int) (h:Int) (h1:List Int) (i:Int) (out:List Int) (h2:Int)
def ZaR (s:Int×List (Int×Int)) (places:List Int):Zc7→JT Zc7 ((List Int)×Int×List (Int×Int)) |.l2 h h1 h2 out=>.br (decide (h2 < h)) (.br ((decide ((0:Int)≤h2))&&(decide (h2 < (Int.ofNat (List.length h1))))) (.jmp (.l8 (List.getD h1 (Int.toNat h2) (dflt (.int .i64))) h h1 (0:Int) out h2)) (.no)) (.leaf (out,s)) |.l8 k h h1 i out h2=>.br (decide (i < (64:Int))) (.br (decide ((IntKind.u64.wrap i) < (0:Int))) (.no) (.br ((bitAnd IntKind.u64 (Int.fdiv (Option.getD (mget (kt:=(.int .i64)) k s.2) (0:Int)) (2 ^ (min (Int.toNat (IntKind.u64.wrap i)) (IntKind.u64).bits))) (1:Int))==(1:Int)) (.br (Nat.ble (((List.length out)+1)*8) limit) (.jmp (.l8 k h h1 (IntKind.i64.wrap (i+(1:Int))) (out++[(IntKind.i64.wrap ((IntKind.i64.wrap (k*(64:Int)))+i))]) h2)) (.no)) (.jmp (.l8 k h h1 (IntKind.i64.wrap (i+(1:Int))) out h2)))) (.jmp (.l2 h h1 (IntKind.i64.wrap (h2+(1:Int))) out))
def ZhQ (s:Int×List (Int×Int)) (places:List Int):JT Zc7 ((List Int)×Int×List (Int×Int)):=.jmp (.l2 (Int.ofNat (List.length places)) places (0:Int) [])
def Zh8:(List Int)×Int×List (Int×Int)→Ans:=fun (r:(List Int)×Int×List (Int×Int))=>(.rw 3 (.int .i64) r.1,[.bx 98 [.d (.int .i64) r.2.1,.mv (.int .i64) (.int .u64) r.2.2]])
def Zb3 (s:Int×List (Int×Int)) (places:List Int):Zc7→Nat×St |.l2 h h1 h2 out=>(2,⟨mkTm 56 [(0,.pt 1 0 0),(4,.own 5 0 none),(26,.own 27 0 none),(27,.d (.int .i64) h),(28,.d (.int .i64) h2)],[(1,0,.box 98 [.d (.int .i64) s.1,.mp 1026 0] (some 0)),(5,0,.row 3 (.int .i64) out false),(27,0,.row 3 (.int .i64) h1 false),(1026,0,.map (.int .i64) (.int .u64) s.2)]⟩) |.l8 k h h1 i out h2=>(8,⟨mkTm 56 [(0,.pt 1 0 0),(4,.own 5 0 none),(7,.d (.int .i64) k),(8,.d (.int .i64) i),(26,.own 27 0 none),(27,.d (.int .i64) h),(28,.d (.int .i64) h2)],[(1,0,.box 98 [.d (.int .i64) s.1,.mp 1026 0] (some 0)),(5,0,.row 3 (.int .i64) out false),(27,0,.row 3 (.int .i64) h1 false),(1026,0,.map (.int .i64) (.int .u64) s.2)]⟩)
def Zei (s:Int×List (Int×Int)) (places:List Int):St:=⟨mkTm 56 [(0,.pt 1 0 0),(3,.own 4 0 none),(4,.nil)],[(1,0,.box 98 [.d (.int .i64) s.1,.mp 1026 0] (some 0)),(4,0,.row 3 (.int .i64) places false),(1026,0,.map (.int .i64) (.int .u64) s.2)]⟩
theorem Zv5 (s:Int×List (Int×Int)) (places:List Int) (L:Lt):evC Go.Proofs.Tryz.prog (clOf Zn1) Zbj L Ziz 0 (finA Go.Proofs.Tryz.prog Zbj Go.Proofs.Tryz.f62 (toPs Zej (s,()))) (fun _ _=>none) (finA Go.Proofs.Tryz.prog Zbj Go.Proofs.Tryz.f62 (toPs Zej (s,()))) (Zei s places)=(ZhQ s places).run (fun v=>some (Zh8 v)) fun j=>L (Zb3 s places j).1 (Zb3 s places j).2:=by kernel_rfl
noncomputable def ZlY (s:Int×List (Int×Int)) (places:List Int):List (Nat×(Lt→Kt)):=procs Go.Proofs.Tryz.prog (clOf Zn1) Zbj Ziz 0 (fun _=>(finA Go.Proofs.Tryz.prog Zbj Go.Proofs.Tryz.f62 (toPs Zej (s,())))) (fun _ _ _=>none) (fun _=>(finA Go.Proofs.Tryz.prog Zbj Go.Proofs.Tryz.f62 (toPs Zej (s,()))))
theorem ZuT (s:Int×List (Int×Int)) (places:List Int):∀(L:Lt) (j:Zc7),procOf (ZlY s places) (Zb3 s places j).1 L (Zb3 s places j).2=(ZaR s places j).run (fun v=>some (Zh8 v)) fun j=>L (Zb3 s places j).1 (Zb3 s places j).2 | L,.l2 h h1 h2 out=>by kernel_rfl | L,.l8 k h h1 i out h2=>by kernel_rfl
end
end Go.Ev
end

section
open Go
namespace Go.Ev
theorem Zwo (s:Int×List (Int×Int)) (places:List Int) (hk:Nat.ble (places.length*512) limit=true):Goes (ZaR s places) (ZhQ s places) (listAt s.2 places,s):=by
 have hlim:places.length*512≤limit:=Nat.le_of_ble_eq_true hk
 have hn:places.length < 4611686018427387904:=by unfold limit at hlim;omega
 have inner:∀(k:Int) (j:Nat),j < places.length→∀(i:Nat),i≤64→∀(out:List Int) r,(out.length+(64 - i))*8≤limit→
   Goes (ZaR s places) (.jmp (.l2 (Int.ofNat (List.length places)) places ((j+1:Nat):Int) (out++wordList s.2 k i (64 - i)))) r→
   Goes (ZaR s places) (.jmp (.l8 k (Int.ofNat (List.length places)) places (i:Int) out (j:Int))) r:=by
  intro k j hj
  refine down ?_ fun i hi ih=>?_
  ·intro out r _ h
   rw[Zi]
   have e:decide (((64:Nat):Int) < (64:Int))=false:=by decide
   simp only[ZaR,Ze,e,Bool.false_eq_true,if_false,Zr (k:=j) (by omega)]
   simpa[wordList] using h
  ·intro out r hl h
   rw[Zi]
   have e:decide ((i:Int) < (64:Int))=true:=decide_eq_true (by omega)
   have hw:=Zub hi
   have e2:decide ((i:Int) < (0:Int))=false:=decide_eq_false (by omega)
   have hcons:wordList s.2 k i (64 - i)=(if bitE (wordAt s.2 k) (i:Nat) then [numE k (i:Nat)] else [])++wordList s.2 k (i+1) (64 - (i+1)):=by
    unfold wordList
    rw[show 64 - i=(64 - (i+1))+1 by omega,List.range'_succ,List.filter_cons]
    split <;> simp
   rw[hcons] at h
   have hb:((bitAnd IntKind.u64 (Int.fdiv (Option.getD (mget (kt:=(.int .i64)) k s.2) (0:Int)) (2 ^ (min (Int.toNat (IntKind.u64.wrap (i:Int))) (IntKind.u64).bits))) (1:Int))==(1:Int))=bitE (wordAt s.2 k) (i:Nat):=rfl
   unfold ZaR
   rw[Ze,if_pos e,Ze,if_neg (by rw[hw,e2];decide),Ze,hb,Zr (k:=i) (by omega)]
   by_cases hbit:bitE (wordAt s.2 k) (i:Nat)=true
   ·rw[if_pos hbit]
    rw[if_pos hbit] at h
    rw[Ze,if_pos (Nat.ble_eq_true_of_le (by omega))]
    refine ih (out++[numE k (i:Nat)]) r (by simp;omega) ?_
    simpa using h
   ·rw[if_neg hbit]
    rw[if_neg hbit,List.nil_append] at h
    exact ih out r (by omega) h
 have outer:∀j,j≤places.length→∀out:List Int,(out.length+(places.length - j)*64)*8≤limit→
   Goes (ZaR s places) (.jmp (.l2 (Int.ofNat (List.length places)) places (j:Int) out)) (out++listAt s.2 (places.drop j),s):=by
  refine down ?_ fun j hj ih=>?_
  ·intro out _
   rw[Zi]
   simp only[ZaR,Ze,Zw (Nat.lt_irrefl _),List.drop_length,Bool.false_eq_true,if_false]
   rw[show out++listAt s.2 []=out by simp[listAt]]
   exact .leaf
  ·intro out hl
   rw[Zi,ZO hj]
   simp only[ZaR,Ze,ZR hj,nng,Bool.and_self,if_true,Int.toNat_natCast,ZH hj]
   have hwl:=ZyU s.2 places[j] 0 64
   refine inner places[j] j hj 0 (by omega) out _ (by omega) ?_
   have:=ih (out++wordList s.2 places[j] 0 64) (by rw[List.length_append];omega)
   rw[show out++listAt s.2 (places[j] :: places.drop (j+1))=(out++wordList s.2 places[j] 0 64)++listAt s.2 (places.drop (j+1)) by simp only[listAt,List.flatMap_cons,List.append_assoc]]
   exact this
 have:=outer 0 (Nat.zero_le _) [] (by simp;omega)
 simpa[ZhQ] using this
end Go.Ev
end

section
open Go Go.Ev
namespace Go.Ev
def renSort:Go.Shelf.Ren:=⟨fun n=>if n=189 then 70 else if n=125 then 93 else if n=257 then 92 else if n=128 then 120 else if n=129 then 121 else if n=294 then 112 else if n=295 then 113 else if n=296 then 114 else if n=297 then 115 else if n=298 then 116 else if n=299 then 117 else if n=216 then 90 else if n=300 then 118 else if n=301 then 119 else if n=328 then 136 else if n=329 then 137 else if n=330 then 138 else if n=331 then 139 else if n=332 then 140 else if n=215 then 111 else if n=343 then 142 else n,
 fun n=>if n=28 then 36 else if n=46 then 102 else if n=51 then 152 else if n=53 then 101 else if n=183 then 146 else if n=182 then 145 else if n=131 then 108 else if n=218 then 165 else if n=222 then 169 else if n=228 then 176 else if n=229 then 134 else n,
 fun n=>n⟩
theorem ZxW:Go.Proofs.Lays.n189 Go.Proofs.Tryz.prog renSort where
 mixed:=by kernel_rfl
 f125:=by kernel_rfl
 f128:=by kernel_rfl
 f129:=by kernel_rfl
 f189:=by kernel_rfl
 f215:=by kernel_rfl
 f216:=by kernel_rfl
 f257:=by kernel_rfl
 f294:=by kernel_rfl
 f295:=by kernel_rfl
 f296:=by kernel_rfl
 f297:=by kernel_rfl
 f298:=by kernel_rfl
 f299:=by kernel_rfl
 f300:=by kernel_rfl
 f301:=by kernel_rfl
 f328:=by kernel_rfl
 f329:=by kernel_rfl
 f330:=by kernel_rfl
 f331:=by kernel_rfl
 f332:=by kernel_rfl
 f343:=by kernel_rfl
 t0:=by kernel_rfl
 a0:=fun w=>by kernel_rfl
 z0:=fun w=>by kernel_rfl
 v0:=fun w=>by kernel_rfl
 t3:=by kernel_rfl
 a3:=fun w=>by kernel_rfl
 z3:=fun w=>by kernel_rfl
 v3:=fun w=>by kernel_rfl
 t4:=by kernel_rfl
 a4:=fun w=>by kernel_rfl
 z4:=fun w=>by kernel_rfl
 v4:=fun w=>by kernel_rfl
 t5:=by kernel_rfl
 a5:=fun w=>by kernel_rfl
 z5:=fun w=>by kernel_rfl
 v5:=fun w=>by kernel_rfl
 t9:=by kernel_rfl
 a9:=fun w=>by kernel_rfl
 z9:=fun w=>by kernel_rfl
 v9:=fun w=>by kernel_rfl
 t28:=by kernel_rfl
 a28:=fun w=>by kernel_rfl
 z28:=fun w=>by kernel_rfl
 v28:=fun w=>by kernel_rfl
 t46:=by kernel_rfl
 a46:=fun w=>by kernel_rfl
 z46:=fun w=>by kernel_rfl
 v46:=fun w=>by kernel_rfl
 t51:=by kernel_rfl
 a51:=fun w=>by kernel_rfl
 z51:=fun w=>by kernel_rfl
 v51:=fun w=>by kernel_rfl
 t53:=by kernel_rfl
 a53:=fun w=>by kernel_rfl
 z53:=fun w=>by kernel_rfl
 v53:=fun w=>by kernel_rfl
 t131:=by kernel_rfl
 a131:=fun w=>by kernel_rfl
 z131:=fun w=>by kernel_rfl
 v131:=fun w=>by kernel_rfl
 t182:=by kernel_rfl
 a182:=fun w=>by kernel_rfl
 z182:=fun w=>by kernel_rfl
 v182:=fun w=>by kernel_rfl
 t183:=by kernel_rfl
 a183:=fun w=>by kernel_rfl
 z183:=fun w=>by kernel_rfl
 v183:=fun w=>by kernel_rfl
 t218:=by kernel_rfl
 a218:=fun w=>by kernel_rfl
 z218:=fun w=>by kernel_rfl
 v218:=fun w=>by kernel_rfl
 t222:=by kernel_rfl
 a222:=fun w=>by kernel_rfl
 z222:=fun w=>by kernel_rfl
 v222:=fun w=>by kernel_rfl
 t228:=by kernel_rfl
 a228:=fun w=>by kernel_rfl
 z228:=fun w=>by kernel_rfl
 v228:=fun w=>by kernel_rfl
 t229:=by kernel_rfl
 a229:=fun w=>by kernel_rfl
 z229:=fun w=>by kernel_rfl
 v229:=fun w=>by kernel_rfl
theorem sortOK:SortOK Go.Proofs.Tryz.prog 70:=⟨fun blk off cap zs w h1 h2 h3=>Go.Proofs.Any.slices_Sort_int ZxW blk off cap zs w h1 h2 h3,fun p cap w=>Go.Proofs.Any.slices_Sort_int_none ZxW p cap w⟩
end Go.Ev
end

section
open Go Go.Ev
namespace Go.Ev
def Zqq:PSig:=[.obj 98 [(.d (.int .i64)),(.m (.int .i64) (.int .u64))]]
def ZbM (s:Int×List (Int×Int)):(List Int)×Int×List (Int×Int):=(listS s,s)
def Zbg (s:Int×List (Int×Int)):Bool:=Nat.ble (s.2.length*512) limit
def Zr5:(List Int)×Int×List (Int×Int)→Ans:=Zh8
section
abbrev SetL:=List (El (.int .i64)×El (.int .u64))
noncomputable def setListBody:Code:=Go.Proofs.Tryz.f62.body.getD .skip
noncomputable def setListR:Code:=fstC (sndC (sndC (sndC setListBody)))
noncomputable def setListX:RangeText:=rangeText (sndC setListR)
noncomputable def setListSort:Code:=fstC (sndC (sndC (sndC (sndC setListBody))))
def setLab1:Lab:=⟨[0,3,4],[]⟩
def setLab2:Lab:=⟨[0,3,4,15],[(4,72)]⟩
def setObs (s:Int×SetL) (ps:List (El (.int .i64))):List (Id×Nat×Obj):=[(1,0,.box 98 [.d (.int .i64) s.1,.mp 1026 0] (some 0)),(4,0,.row 3 (.int .i64) ps false),(1026,0,.gone (some 1000))]
def setK (s:Int×SetL) (v:Value) (ps:List (El (.int .i64))):St:=⟨mkTm 56 [(0,.pt 1 0 0),(3,.own 4 0 none),(4,.nil),(15,.cst v)],setObs s ps⟩
def setI (s:Int×SetL) (v:Value) (done:SetL):St:=setK s v (done.map Prod.fst)
def setT (s:Int×SetL) (v:Value) (done:SetL) (e:El (.int .i64)×El (.int .u64)):St:=((setI s v done).put (some 16) (.tu [mkB true,.d (.int .i64) e.1,.d (.int .u64) e.2])).put (some 17) (mkB true)
def setU (s:Int×SetL) (v:Value) (done:SetL) (e:El (.int .i64)×El (.int .u64)):St:=(((setT s v done e).put (some 18) (.tu [.d (.int .i64) e.1,.d (.int .u64) e.2])).put (some 19) (.d (.int .i64) e.1)).put (some 5) (.d (.int .i64) e.1)
def setE (s:Int×SetL) (v:Value) (done:SetL):St:=((setI s v done).put (some 16) (.tu [mkB false])).put (some 17) (mkB false)
def setA (s:Int×SetL):St:=⟨mkTm 56 [(0,.pt 1 0 0)],[(1,0,.box 98 [.d (.int .i64) s.1,.mp 1026 0] (some 0)),(1026,0,.map (.int .i64) (.int .u64) s.2)]⟩
def setC (s:Int×SetL):St:=⟨mkTm 56 [(0,.pt 1 0 0),(3,.nil),(4,.nil)],[(1,0,.box 98 [.d (.int .i64) s.1,.mp 1026 0] (some 0)),(1026,0,.map (.int .i64) (.int .u64) s.2)]⟩
def setM (s:Int×SetL):St:=((((setC s).put (some 11) (.pt 1 0 0)).put (some 12) (.pt 1 0 0)).put (some 13) (.pt 1 0 1)).put (some 14) (.mp 1026 0)
theorem ZI0:setListX.OK:=⟨by kernel_rfl,by kernel_rfl,by kernel_rfl,by kernel_rfl,by kernel_rfl,by kernel_rfl,by kernel_rfl,by kernel_rfl,by kernel_rfl⟩
theorem ZEU (s:Int×SetL) (v:Value) (done:SetL) (e:El (.int .i64)×El (.int .u64)) (L:Lt) (k:Kt) (x:Nat→Kt) (r:Kt):
  evC Go.Proofs.Tryz.prog (clOf []) [] L setListX.cr 0 (fun t=>k (norm Go.Proofs.Tryz.prog setLab2 t)) x r (setU s v done e)=bif Nat.ble (((done.map Prod.fst).length+1)*8) limit then k (setK s v (done.map Prod.fst++[e.1])) else none:=by kernel_rfl
theorem ZLh (s:Int×SetL) (hk:Zbg s=true):RangeEv Go.Proofs.Tryz.prog (clOf []) setListX s.2 setLab2 1026 1000 (setI s) (setE s) (setT s) (setU s) where
 it:=fun v done=>by kernel_rfl
 r1:=fun v done e k=>by kernel_rfl
 rt:=fun v done e=>by kernel_rfl
 re:=fun v done e=>by kernel_rfl
 r2:=fun v done e k=>by kernel_rfl
 r3:=fun v done e rest hp L k x r=>by
  have hl:=hp.length_eq
  simp only[List.length_append,List.length_cons] at hl
  have hlim:s.2.length*512≤limit:=Nat.le_of_ble_eq_true hk
  rw[ZEU,List.length_map,Nat.ble_eq_true_of_le (by omega),cond_true]
  unfold setI
  rw[List.map_append]
  rfl
 f1:=fun v done k=>by kernel_rfl
 ft:=fun v done=>by kernel_rfl
theorem ZGO:setListBody=.seq (fstC setListBody) (.seq (fstC (sndC setListBody)) (.seq (fstC (sndC (sndC setListBody))) (.seq (.seq (.region (ridC (fstC setListR)) (ropsC (fstC setListR)) false) setListX.code) (.seq (.region (ridC setListSort) (ropsC setListSort) false) Ziz)))):=by kernel_rfl
theorem ZLF (s:Int×SetL) (L:Lt) (k:Kt) (x:Nat→Kt) (r:Kt):evC Go.Proofs.Tryz.prog (clOf []) [] L (fstC setListBody) 0 (fun t=>k (norm Go.Proofs.Tryz.prog setLab1 t)) x r (setA s)=k (setA s):=by kernel_rfl
theorem ZMx (s:Int×SetL) (L:Lt) (k:Kt) (x:Nat→Kt) (r:Kt):evC Go.Proofs.Tryz.prog (clOf []) [] L (fstC (sndC setListBody)) 0 (fun t=>k (norm Go.Proofs.Tryz.prog setLab1 t)) x r (setA s)=k (setA s):=by kernel_rfl
theorem ZMs (s:Int×SetL) (L:Lt) (k:Kt) (x:Nat→Kt) (r:Kt):evC Go.Proofs.Tryz.prog (clOf []) [] L (fstC (sndC (sndC setListBody))) 0 (fun t=>k (norm Go.Proofs.Tryz.prog setLab1 t)) x r (setA s)=k (setC s):=by kernel_rfl
def mapKV (P:Program) (T:TypeId):TypeId×TypeId:=match P.underlying T with | some (.map K V)=>(K,V) | _=>(0,0)
theorem Zs1 (s:Int×SetL) (hk:Zbg s=true):CallOK Go.Proofs.Tryz.prog 62 (toPs Zqq (s,())) (Zr5 (ZbM s)):=by
 obtain ⟨hcl,hdet⟩:=Zqb (P:=Go.Proofs.Tryz.prog) Zu
 have hlim:s.2.length*512≤limit:=Nat.le_of_ble_eq_true hk
 refine ZmP (tb:=Zbj) (fn:=Go.Proofs.Tryz.f62) (c:=setListBody) (vs:=[.pt 1 0 0]) (st:=⟨[],[(1,0,.box 98 [.d (.int .i64) s.1,.mp 1026 0] (some 0)),(1026,0,.map (.int .i64) (.int .u64) s.2)]⟩) (by kernel_rfl) (by kernel_rfl) (by kernel_rfl) ?_
 intro _ Mod F0 w0 a w hr
 have hr:Rel Mod F0 w0 (setA s) a w:=hr
 rw[ZGO]
 refine wp_seq (piece hcl hdet (norm Go.Proofs.Tryz.prog setLab1) (fun h=>Z1 h) (ZLF s) hr fun a w hr=>?_)
 refine wp_seq (piece hcl hdet (norm Go.Proofs.Tryz.prog setLab1) (fun h=>Z1 h) (ZMx s) hr fun a w hr=>?_)
 refine wp_seq (piece hcl hdet (norm Go.Proofs.Tryz.prog setLab1) (fun h=>Z1 h) (ZMs s) hr fun a w hr=>?_)
 refine wp_seq (wp_seq (wp_region ?_))
 rw[show List.range (ropsC (fstC setListR)).size=[0,1,2,3,4] from by kernel_rfl]
 refine evOp hcl (o:=opC (fstC setListR) 0) (st1:=(setC s).put (some 11) (.pt 1 0 0)) (by kernel_rfl) (by kernel_rfl) (fun k=>by kernel_rfl) hr fun a w hr=>?_
 refine evOp hcl (o:=opC (fstC setListR) 1) (st1:=((setC s).put (some 11) (.pt 1 0 0)).put (some 12) (.pt 1 0 0)) (by kernel_rfl) (by kernel_rfl) (fun k=>by kernel_rfl) hr fun a w hr=>?_
 refine evOp hcl (o:=opC (fstC setListR) 2) (st1:=(((setC s).put (some 11) (.pt 1 0 0)).put (some 12) (.pt 1 0 0)).put (some 13) (.pt 1 0 1)) (by kernel_rfl) (by kernel_rfl) (fun k=>by kernel_rfl) hr fun a w hr=>?_
 refine evOp hcl (o:=opC (fstC setListR) 3) (st1:=setM s) (by kernel_rfl) (by kernel_rfl) (fun k=>by kernel_rfl) hr fun a w hr=>?_
 refine handOp (o:=opC (fstC setListR) 4) (by kernel_rfl) (by kernel_rfl) ?_
 refine rangeLoop (tm:=14) (idm0:=1026) (ver0:=0) (T:=(match (opC (fstC setListR) 4).op with |.range T _=>T | _=>0)) (K:=(mapKV Go.Proofs.Tryz.prog (match (opC (fstC setListR) 4).op with |.range T _=>T | _=>0)).1) (V:=(mapKV Go.Proofs.Tryz.prog (match (opC (fstC setListR) 4).op with |.range T _=>T | _=>0)).2)
  hcl hdet ZI0 rfl rfl (ZLh s hk) (by kernel_rfl) (by kernel_rfl) (by kernel_rfl) (by kernel_rfl) (by kernel_rfl) (by kernel_rfl) (fun v=>by kernel_rfl) (fun v done=>by kernel_rfl) (fun v done=>by kernel_rfl) hr ?_
 intro v done a w hperm hr
 have hr:Rel Mod F0 w0 (Zei s (done.map Prod.fst)) a w:=Z1 (P:=Go.Proofs.Tryz.prog) (lab:=setLab1) hr
 refine wp_seq (wp_region ?_)
 rw[show List.range (ropsC setListSort).size=[0,1] from by kernel_rfl]
 refine evOp hcl (o:=opC setListSort 0) (st1:=(Zei s (done.map Prod.fst)).put (some 24) (.own 4 0 none)) (by kernel_rfl) (by kernel_rfl) (fun k=>by kernel_rfl) hr fun a w hr=>?_
 refine handOp (o:=opC setListSort 1) (by kernel_rfl) (by kernel_rfl) ?_
 refine sortStep (ts:=24) (id:=4) (ver:=0) (E:=3) (l:=done.map Prod.fst) (c:=(match (opC setListSort 1).op with |.call c=>c | _=>default)) (fn:=Go.Proofs.Tryz.f70) (body:=Go.Proofs.Tryz.f70.body.getD .skip) (by kernel_rfl) (by kernel_rfl) (by kernel_rfl) (by kernel_rfl) (by kernel_rfl) (by kernel_rfl) (by kernel_rfl) (by kernel_rfl) sortOK (by
  rw[List.length_map,hperm.length_eq]
  unfold limit at hlim
  omega) hr fun a w hr=>?_
 have hr:Rel Mod F0 w0 (Zei s (sorted (done.map Prod.fst))) a w:=Z1 (P:=Go.Proofs.Tryz.prog) (lab:=setLab1) hr
 rw[ZJC (hperm.map Prod.fst)] at hr
 have hg:=Zwo s (sorted (s.2.map Prod.fst)) (by rw[List.length_mergeSort,List.length_map];exact hk)
 exact tailStep hcl hdet (ps:=ZlY s (sorted (s.2.map Prod.fst))) rfl (by kernel_rfl) (Zv5 s _) (ZuT s _) hg hr
end
noncomputable def Zh3:Run:=entO Zqq Zr5 (fun a=>Zbg a.1) (fun a=>ZbM a.1)
theorem ZjC:EntOK Go.Proofs.Tryz.prog 62 Zh3:=ZuW (Zoi (ZiX (fn:=Go.Proofs.Tryz.f62) (c:=setListBody) (by kernel_rfl) (by kernel_rfl) (by kernel_rfl))) fun a h=>Zs1 a.1 h
end Go.Ev
end

section
open Go Go.Ev
namespace Go.Ev
noncomputable section
def Zhb:Sig:=[(true,(.sl Za)),(false,(.int .i64))]
noncomputable def Zue:Tbl:=[(37,Zkt),(61,Zuq),(39,ZcN),(62,Zh3)]
theorem ZGi:∀p∈Zue,EntOK Go.Proofs.Tryz.prog p.1 p.2:=Zg Zln (Zg ZwU (Zg Zb6 (Zg ZjC (Zu))))
noncomputable def Zoz:Code:=Go.Proofs.Tryz.f38.body.getD .skip
def ZqW:Tb:=[(4,⟨[2,5,6],[(1000000000000000000000000000000000000000000000000000000000007,1)]⟩)]
inductive Zlv where | l4 (len:Nat) (seen:Int) (open_:List Int) (seen1:List (Int×Int))
def ZkM (t:List (El Za)) (i:Int):Zlv→JT Zlv (List Int) |.l4 len seen open_ seen1=>.br (decide ((Int.ofNat len) > (0:Int))) (.br ((decide ((0:Int)≤(IntKind.i64.wrap ((Int.ofNat len) - (1:Int)))))&&(decide ((IntKind.i64.wrap ((Int.ofNat len) - (1:Int))) < (Int.ofNat len)))) (.br ((decide ((0:Int)≤(IntKind.i64.wrap ((Int.ofNat len) - (1:Int)))))&&(decide ((IntKind.i64.wrap ((Int.ofNat len) - (1:Int)))≤(Int.ofNat len)))) (.br (Zp (seen,seen1) (List.getD open_ (Int.toNat (IntKind.i64.wrap ((Int.ofNat len) - (1:Int)))) (dflt (.int .i64)))).1 (.br (ZeJ t (List.getD open_ (Int.toNat (IntKind.i64.wrap ((Int.ofNat len) - (1:Int)))) (dflt (.int .i64)))) (.br (Nat.ble (((List.length (List.take (Int.toNat (IntKind.i64.wrap ((Int.ofNat len) - (1:Int)))) open_))+(List.length (Z8 t (List.getD open_ (Int.toNat (IntKind.i64.wrap ((Int.ofNat len) - (1:Int)))) (dflt (.int .i64))))))*8) limit) (.jmp (.l4 (List.length ((List.take (Int.toNat (IntKind.i64.wrap ((Int.ofNat len) - (1:Int)))) open_)++(Z8 t (List.getD open_ (Int.toNat (IntKind.i64.wrap ((Int.ofNat len) - (1:Int)))) (dflt (.int .i64)))))) (Zp (seen,seen1) (List.getD open_ (Int.toNat (IntKind.i64.wrap ((Int.ofNat len) - (1:Int)))) (dflt (.int .i64)))).2.1 ((List.take (Int.toNat (IntKind.i64.wrap ((Int.ofNat len) - (1:Int)))) open_)++(Z8 t (List.getD open_ (Int.toNat (IntKind.i64.wrap ((Int.ofNat len) - (1:Int)))) (dflt (.int .i64))))) (Zp (seen,seen1) (List.getD open_ (Int.toNat (IntKind.i64.wrap ((Int.ofNat len) - (1:Int)))) (dflt (.int .i64)))).2.2)) (.no)) (.no)) (.jmp (.l4 (Int.toNat (IntKind.i64.wrap ((Int.ofNat len) - (1:Int)))) (Zp (seen,seen1) (List.getD open_ (Int.toNat (IntKind.i64.wrap ((Int.ofNat len) - (1:Int)))) (dflt (.int .i64)))).2.1 open_ (Zp (seen,seen1) (List.getD open_ (Int.toNat (IntKind.i64.wrap ((Int.ofNat len) - (1:Int)))) (dflt (.int .i64)))).2.2))) (.no)) (.no)) (.br (Zbg (seen,seen1)) (.leaf (ZbM (seen,seen1)).1) (.no))
def ZqZ (t:List (El Za)) (i:Int):JT Zlv (List Int):=.br (ZeJ t i) (.jmp (.l4 (List.length (Z8 t i)) (Zy (Int.ofNat (List.length t))).1 (Z8 t i) (Zy (Int.ofNat (List.length t))).2)) (.no)
def Zp2:List Int→AV:=fun (r:List Int)=>.rw 3 (.int .i64) r
def ZgE (t:List (El Za)) (i:Int):Zlv→Nat×St |.l4 len seen open_ seen1=>(4,⟨mkTm 39 [(2,.pt 3 0 0),(5,.pt 6 0 0),(6,.own 7 0 (some len))],[(3,0,.box 33 [.d (.sl Za) t] none),(6,0,.box 98 [.d (.int .i64) seen,.mp 6146 0] none),(7,0,.row 3 (.int .i64) open_ false),(6146,0,.map (.int .i64) (.int .u64) seen1)]⟩)
theorem ZGt (t:List (El Za)) (i:Int) (L:Lt):entryA Go.Proofs.Tryz.prog (clOf Zue) ZqW Go.Proofs.Tryz.f38 Zoz L (toForms Zhb (t,i,()))=(ZqZ t i).run (fun v=>some (Zp2 v,tps (toForms Zhb (t,i,())))) fun j=>L (ZgE t i j).1 (ZgE t i j).2:=by kernel_rfl
theorem ZHW (t:List (El Za)) (i:Int):∀(L:Lt) (j:Zlv),procOf (procsF Go.Proofs.Tryz.prog (clOf Zue) ZqW Go.Proofs.Tryz.f38 Zoz (toForms Zhb (t,i,()))) (ZgE t i j).1 L (ZgE t i j).2=(ZkM t i j).run (fun v=>some (Zp2 v,tps (toForms Zhb (t,i,())))) fun j=>L (ZgE t i j).1 (ZgE t i j).2 | L,.l4 len seen open_ seen1=>by kernel_rfl
end
end Go.Ev
end

section
open Go
namespace Go.Ev
noncomputable def Zbu (t:List (El Za)) (i:Int):List Int:=listOf t.length (fromB t i)
def Zih (t:List (El Za)) (i:Int):Bool:=flowOK t
theorem ZCI (t:List (El Za)) (i:Int):(Z8 t i).length≤3:=by
 unfold Z8
 by_cases h:0≤i∧i < (t.length:Int)
 ·obtain ⟨j,rfl⟩:=Int.eq_ofNat_of_zero_le h.1
  rw[←ZKd (by omega)]
  unfold nextL
  simp only[List.length_append]
  split <;> split <;> split <;> simp
 ·rw[ZzN h];simp
theorem ZMi {l:List Int} {n:Nat} (h:n+1≤l.length):l.take (n+1)=l.take n++[l.getD n 0]:=by
 have hn:n < l.length:=by omega
 rw[List.take_succ_eq_append_getElem hn,ZH hn]
theorem ZJi (t:List (El Za)) (i:Int) (hk:Zih t i=true):Goes (ZkM t i) (ZqZ t i) (Zbu t i):=by
 have hlen:=Zby hk
 generalize hn:t.length=n at hlen
 have loop:∀m,∀(M:Nat→Bool) (s:Int×List (Int×Int)) (open_:List Int) (len:Nat),len≤open_.length→4*(n - card n M)+len=m→SetOK s n M→(∀j,M j=true→Come (fun k j=>nextB t (k:Int) j) (nextB t i) j)→
   (∀x∈open_.take len,∃j:Nat,x=(j:Int)∧Come (fun k j=>nextB t (k:Int) j) (nextB t i) j)→(∀j,nextB t i j=true→M j=true∨(j:Int)∈open_.take len)→(∀k j,M k=true→nextB t (k:Int) j=true→M j=true∨(j:Int)∈open_.take len)→
   len≤3*(card n M+1)→Goes (ZkM t i) (.jmp (.l4 len s.1 open_ s.2)) (Zbu t i):=by
  intro m
  induction m using Nat.strongRecOn with
  | _ m ih=>
  intro M s open_ len hl hm hs h1 h2 h3 h4 h5
  cases len with
  | zero=>
   rw[Zi,ZkM,Ze,if_neg (by decide)]
   have hkl:Zbg (s.1,s.2)=true:=Nat.ble_eq_true_of_le (by have:=hs.few;unfold limit;show s.2.length*512≤_;omega)
   rw[Ze,if_pos hkl]
   have hv:(ZbM (s.1,s.2)).1=Zbu t i:=by
    show listS s=_
    rw[hs.list (by omega)]
    unfold Zbu fromB
    rw[hn]
    refine ZqN fun j _=>Zpy (fun j hj=>?_) (fun k j hk hj=>?_) h1 j
    ·simpa using h3 j hj
    ·simpa using h4 k j hk hj
   rw[hv];exact .leaf
  | succ len=>
   have hc:= @Zes n M
   have e:IntKind.i64.wrap (Int.ofNat (len+1) - 1)=(len:Int):=by
    rw[wrap_i64 (by simp <;> omega) (by simp <;> omega)];simp
   have g1:decide (Int.ofNat (len+1) > (0:Int))=true:=decide_eq_true (by simp <;> omega)
   have g2:(decide ((0:Int)≤(len:Int))&&decide ((len:Int) < Int.ofNat (len+1)))=true:=Zaq (by omega)
   have g3:(decide ((0:Int)≤(len:Int))&&decide ((len:Int)≤Int.ofNat (len+1)))=true:=by simp;omega
   rw[Zi,ZkM,e,Ze,if_pos g1,Ze,if_pos g2,Ze,if_pos g3,Ze,Int.toNat_natCast]
   have htk:=ZMi hl
   obtain ⟨j,hj,hcj⟩:=h2 (open_.getD len 0) (by rw[htk];simp)
   have hjn:j < n:=by
    have:=ZC7 (n:=t.length) (fun j=>Zem) (fun k j=>Zem) hcj
    omega
   have hd:open_.getD len (dflt (.int .i64))=(j:Int):=hj
   rw[hd]
   have hput:Zp (s.1,s.2) (j:Int)=putS s (j:Int):=rfl
   rw[hput]
   have sub:∀x,x∈open_.take len→x∈open_.take (len+1):=fun x hx=>by rw[htk];simp[hx]
   cases hMj:M j with
   | true=>
    have hno:=hs.put_no (by omega) (i:=(j:Int)) (fun h=>by rw[Int.toNat_natCast,hMj] at h;cases h.2.2)
    rw[hno,if_neg (by simp)]
    have lose:∀k:Nat,(M k=true∨(k:Int)∈open_.take (len+1))→(M k=true∨(k:Int)∈open_.take len):=fun k h=>by
     rcases h with h | h
     ·exact .inl h
     ·rw[htk,List.mem_append] at h
      rcases h with h | h
      ·exact .inr h
      ·simp only[List.mem_singleton] at h
       rw[hj] at h
       have:k=j:=by omega
       subst this
       exact .inl hMj
    exact ih (m - 1) (by omega) M s open_ len (by omega) (by omega) hs h1 (fun x hx=>h2 x (sub x hx)) (fun k hk=>lose k (h3 k hk)) (fun k k' hk hk'=>lose k' (h4 k k' hk hk')) (by omega)
   | false=>
    obtain ⟨p1,p2⟩:=hs.put (by omega) hjn hMj
    have hsh:=ZCI t (j:Int)
    have hkn:ZeJ t (j:Int)=true:=hk
    rw[p1,if_pos rfl,Ze,if_pos hkn,Ze,if_pos (Nat.ble_eq_true_of_le (by
     rw[List.length_take];unfold limit;omega))]
    have hcard:=Zmm hMj hjn
    have hcl2:= @Zes n (fun k=>M k || (k==j))
    have hnl:∀k:Nat,nextB t (j:Int) k=true→(k:Int)∈Z8 t (j:Int):=fun k hk=>Zcm.2 ⟨k,Zem hk,hk,rfl⟩
    have htake:(open_.take len++Z8 t (j:Int)).take (open_.take len++Z8 t (j:Int)).length=open_.take len++Z8 t (j:Int):=List.take_length
    have hlen2:(open_.take len++Z8 t (j:Int)).length≤len+3:=by rw[List.length_append,List.length_take];omega
    have keep:∀k:Nat,(M k=true∨(k:Int)∈open_.take (len+1))→((M k || (k==j))=true∨(k:Int)∈open_.take len++Z8 t (j:Int)):=fun k h=>by
     rcases h with h | h
     ·exact .inl (by rw[h];rfl)
     ·rw[htk,List.mem_append] at h
      rcases h with h | h
      ·exact .inr (List.mem_append_left _ h)
      ·simp only[List.mem_singleton] at h
       rw[hj] at h
       have:k=j:=by omega
       subst this
       exact .inl (by simp)
    refine ih _ (by omega) (fun k=>M k || (k==j)) (putS s (j:Int)).2 (open_.take len++Z8 t (j:Int)) (open_.take len++Z8 t (j:Int)).length (Nat.le_refl _) rfl p2 (fun k hk=>?_) (fun x hx=>?_) (fun k hk=>?_) (fun k k' hk hk'=>?_) (by omega)
    ·simp only[Bool.or_eq_true,beq_iff_eq] at hk
     rcases hk with hk | hk
     ·exact h1 k hk
     ·subst hk;exact hcj
    ·rw[htake,List.mem_append] at hx
     rcases hx with hx | hx
     ·exact h2 x (sub x hx)
     ·obtain ⟨k,_,hk,rfl⟩:=Zcm.1 hx
      exact ⟨k,rfl,.step hcj hk⟩
    ·rw[htake];exact keep k (h3 k hk)
    ·rw[htake]
     simp only[Bool.or_eq_true,beq_iff_eq] at hk
     rcases hk with hk | hk
     ·exact keep k' (h4 k k' hk hk')
     ·subst hk
      exact .inr (List.mem_append_right _ (hnl k' hk'))
 have hkn:ZeJ t i=true:=hk
 unfold ZqZ
 rw[Ze,if_pos hkn]
 have hnew:Zy (Int.ofNat (List.length t))=((n:Int),[]):=by
  rw[hn]
  unfold Zy
  simp
  omega
 rw[hnew]
 refine loop _ (fun _=>false) ((n:Int),[]) (Z8 t i) _ (Nat.le_refl _) rfl (SetOK.new n) (fun j h=>by cases h) (fun x hx=>?_) (fun j hj=>.inr ?_) (fun k j h=>by cases h) (by have:=ZCI t i;omega)
 ·rw[List.take_length] at hx
  obtain ⟨k,_,hk,rfl⟩:=Zcm.1 hx
  exact ⟨k,rfl,.start hk⟩
 ·rw[List.take_length];exact Zcm.2 ⟨j,Zem hj,hj,rfl⟩
end Go.Ev
end

section
open Go Go.Ev
namespace Go.Ev
noncomputable section
noncomputable def ZtF:Run:=entG Zhb Zp2 (fun a=>Zih a.1 a.2.1) (fun a=>Zbu a.1 a.2.1)
theorem Zxw:EntOK Go.Proofs.Tryz.prog 38 ZtF:=ZM (tb:=ZqW) (c:=Zoz) ZGi (by kernel_rfl) (by kernel_rfl) (by kernel_rfl) (fun a=>by kernel_rfl) fun ⟨t,i,_⟩ hk=>Zm (c:=Zoz) (K:=fun v=>(Zp2 v,tps (toForms Zhb (t,i,())))) (S:=ZgE t i) (by kernel_rfl) (ZGt t i) (ZHW t i) (ZJi t i hk)
end
end Go.Ev
end

section
open Go Go.Ev
namespace Go.Ev
noncomputable section
def Zlj:PSig:=[.dat false (.int .i64),.obj 67 [(.d (.sl Zb))],.obj 3 [(.d (.int .i64))],.ptr 80 98 [(.d (.int .i64)),(.m (.int .i64) (.int .u64))],.obj 36 [(.w 3 (.int .i64))],.obj 3 [(.d (.int .i64))],.ptr 80 98 [(.d (.int .i64)),(.m (.int .i64) (.int .u64))]]
noncomputable def Zm5:Tbl:=[(65,Zvm),(39,ZcN)]
theorem ZAm:∀p∈Zm5,EntOK Go.Proofs.Tryz.prog p.1 p.2:=Zg ZBp (Zg Zb6 (Zu))
noncomputable def ZfY:Code:=Go.Proofs.Tryz.f64.body.getD .skip
def Zla:Tb:=[(1,⟨[0,1,2,3,4,5,6,10,11,12],[]⟩)]
inductive Zf9 where | l1 (h:Int) (h1:Int) (h2:List Int) (h3:List (Int×Int)) (h4:Int) (h5:List (Int×Int))
def ZfX (x:Int) (l:List (El Zb)) (own:Int) (come:Int×List (Int×Int)) (open_:List Int) (a:Int) (back:Int×List (Int×Int)):Zf9→JT Zf9 ((List (El Zb))×Int×(Int×List (Int×Int))×(List Int)×Int×Int×List (Int×Int)) |.l1 h h1 h2 h3 h4 h5=>.br (decide (h < (Int.ofNat (List.length l)))) (.br ((decide ((0:Int)≤h))&&(decide (h < (Int.ofNat (List.length l))))) (.br ((decide ((0:Int)≤x))&&(decide (x < (Int.ofNat (List.length l))))) (.br (! (ZfM (List.getD l (Int.toNat x) (dflt Zb)) (List.getD l (Int.toNat h) (dflt Zb)))) (.jmp (.l1 (IntKind.i64.wrap (h+(1:Int))) h1 h2 h3 h4 h5)) (.br ((List.getD l (Int.toNat h) (dflt Zb)).1 !=own) (.br (Zp (h1,h3) h).1 (.br (Nat.ble (((List.length h2)+1)*8) limit) (.jmp (.l1 (IntKind.i64.wrap (h+(1:Int))) (Zp (h1,h3) h).2.1 (h2++[h]) (Zp (h1,h3) h).2.2 h4 h5)) (.no)) (.jmp (.l1 (IntKind.i64.wrap (h+(1:Int))) (Zp (h1,h3) h).2.1 h2 (Zp (h1,h3) h).2.2 h4 h5))) (.br (x !=a) (.jmp (.l1 (IntKind.i64.wrap (h+(1:Int))) h1 h2 h3 (Zp (h4,h5) h).2.1 (Zp (h4,h5) h).2.2)) (.jmp (.l1 (IntKind.i64.wrap (h+(1:Int))) h1 h2 h3 h4 h5))))) (.no)) (.no)) (.leaf (l,(own,((h1,h3),(h2,(a,(h4,h5)))))))
def ZrI (x:Int) (l:List (El Zb)) (own:Int) (come:Int×List (Int×Int)) (open_:List Int) (a:Int) (back:Int×List (Int×Int)):JT Zf9 ((List (El Zb))×Int×(Int×List (Int×Int))×(List Int)×Int×Int×List (Int×Int)):=.jmp (.l1 (0:Int) come.1 open_ come.2 back.1 back.2)
def ZiW:(List (El Zb))×Int×(Int×List (Int×Int))×(List Int)×Int×Int×List (Int×Int)→Ans:=fun (r:(List (El Zb))×Int×(Int×List (Int×Int))×(List Int)×Int×Int×List (Int×Int))=>(.tu [],[.top,.bx 67 [.d (.sl Zb) r.1],.bx 3 [.d (.int .i64) r.2.1],.bx 80 [.bx 98 [.d (.int .i64) r.2.2.1.1,.mv (.int .i64) (.int .u64) r.2.2.1.2]],.bx 36 [.rw 3 (.int .i64) r.2.2.2.1],.bx 3 [.d (.int .i64) r.2.2.2.2.1],.bx 80 [.bx 98 [.d (.int .i64) r.2.2.2.2.2.1,.mv (.int .i64) (.int .u64) r.2.2.2.2.2.2]]])
def ZcO (x:Int) (l:List (El Zb)) (own:Int) (come:Int×List (Int×Int)) (open_:List Int) (a:Int) (back:Int×List (Int×Int)):Zf9→Nat×St |.l1 h h1 h2 h3 h4 h5=>(1,⟨mkTm 42 [(0,.d (.int .i64) x),(1,.pt 2 0 0),(2,.pt 3 0 0),(3,.pt 4 0 0),(4,.pt 5 0 0),(5,.pt 6 0 0),(6,.pt 7 0 0),(10,.d (.sl Zb) l),(11,.d (.int .i64) (Int.ofNat (List.length l))),(12,.d (.int .i64) h)],[(2,0,.box 67 [.d (.sl Zb) l] (some 1)),(3,0,.box 3 [.d (.int .i64) own] (some 2)),(4,0,.box 80 [.pt 4097 0 0] (some 3)),(5,0,.box 36 [.own 5121 0 none] (some 4)),(6,0,.box 3 [.d (.int .i64) a] (some 5)),(7,0,.box 80 [.pt 7169 0 0] (some 6)),(4097,0,.box 98 [.d (.int .i64) h1,.mp 4195330 0] none),(5121,0,.row 3 (.int .i64) h2 false),(7169,0,.box 98 [.d (.int .i64) h4,.mp 7341058 0] none),(4195330,0,.map (.int .i64) (.int .u64) h3),(7341058,0,.map (.int .i64) (.int .u64) h5)]⟩)
theorem ZzB (x:Int) (l:List (El Zb)) (own:Int) (come:Int×List (Int×Int)) (open_:List Int) (a:Int) (back:Int×List (Int×Int)) (L:Lt):entryA Go.Proofs.Tryz.prog (clOf Zm5) Zla Go.Proofs.Tryz.f64 ZfY L (toPs Zlj (x,l,own,come,open_,a,back,()))=(ZrI x l own come open_ a back).run (fun v=>some (ZiW v)) fun j=>L (ZcO x l own come open_ a back j).1 (ZcO x l own come open_ a back j).2:=by kernel_rfl
theorem ZAl (x:Int) (l:List (El Zb)) (own:Int) (come:Int×List (Int×Int)) (open_:List Int) (a:Int) (back:Int×List (Int×Int)):∀(L:Lt) (j:Zf9),procOf (procsF Go.Proofs.Tryz.prog (clOf Zm5) Zla Go.Proofs.Tryz.f64 ZfY (toPs Zlj (x,l,own,come,open_,a,back,()))) (ZcO x l own come open_ a back j).1 L (ZcO x l own come open_ a back j).2=(ZfX x l own come open_ a back j).run (fun v=>some (ZiW v)) fun j=>L (ZcO x l own come open_ a back j).1 (ZcO x l own come open_ a back j).2 | L,.l1 h h1 h2 h3 h4 h5=>by kernel_rfl
end
end Go.Ev
end

section
open Go
namespace Go.Ev
abbrev SetT:=Int×List (Int×Int)
def meet1 (l : List Acc) (x own a : Int) (h : Nat) (s : SetT × List Int × SetT) : SetT × List Int × SetT :=
  if clB l x.toNat h = true then
    (if thA l h ≠ own then ((putS s.1 (h : Int)).2, (if (putS s.1 (h : Int)).1 = true then s.2.1 ++ [(h : Int)] else s.2.1), s.2.2)
     else if x ≠ a then (s.1, s.2.1, (putS s.2.2 (h : Int)).2) else s)
  else s
def meetF (l:List Acc) (x own a:Int):List Nat→SetT×List Int×SetT→SetT×List Int×SetT
 | [],s=>s
 | h :: r,s=>meetF l x own a r (meet1 l x own a h s)
def ZV (x:Int) (l:List (El Zb)) (own:Int) (come:SetT) (open_:List Int) (a:Int) (back:SetT):(List (El Zb))×Int×SetT×(List Int)×Int×SetT:=
 (l,own,(meetF l x own a (List.range' 0 l.length) (come,open_,back)).1,(meetF l x own a (List.range' 0 l.length) (come,open_,back)).2.1,a,(meetF l x own a (List.range' 0 l.length) (come,open_,back)).2.2)
def ZfZ (x:Int) (l:List (El Zb)) (own:Int) (come:SetT) (open_:List Int) (a:Int) (back:SetT):Bool:=decide (0≤x∧x < (l.length:Int)∧l.length < 1099511627776∧open_.length < 1099511627776)
theorem ZAP (x:Int) (l:List (El Zb)) (own:Int) (come:SetT) (open_:List Int) (a:Int) (back:SetT) (hk:ZfZ x l own come open_ a back=true):Goes (ZfX x l own come open_ a back) (ZrI x l own come open_ a back) (ZV x l own come open_ a back):=by
 obtain ⟨x0,x1,hN,hO⟩:=of_decide_eq_true hk
 obtain ⟨T,hT⟩:∃T,T=ZfX x l own come open_ a back:=⟨_,rfl⟩
 rw[←hT]
 have loop:∀h,h≤l.length→∀s:SetT×List Int×SetT,s.2.1.length≤open_.length+h→Goes T (.jmp (.l1 (h:Int) s.1.1 s.2.1 s.1.2 s.2.2.1 s.2.2.2)) (l,own,(meetF l x own a (List.range' h (l.length - h)) s).1,(meetF l x own a (List.range' h (l.length - h)) s).2.1,a,(meetF l x own a (List.range' h (l.length - h)) s).2.2):=by
  refine down ?_ fun h hh ih=>?_
  ·intro s hs
   rw[Zi,hT,ZfX,←hT,Ze,if_neg (by rw[Zw (Nat.lt_irrefl _)];decide),Nat.sub_self]
   exact .leaf
  ·intro s hs
   have hx1:decide ((0:Int)≤x)=true:=decide_eq_true x0
   have hx2:decide (x < Int.ofNat l.length)=true:=decide_eq_true x1
   rw[show l.length - h=(l.length - (h+1))+1 by omega,List.range'_succ,meetF]
   have ec:ZfM (List.getD l x.toNat (dflt Zb)) (List.getD l h (dflt Zb))=clB l x.toNat h:=rfl
   have et:(List.getD l h (dflt Zb)).1=thA l h:=rfl
   have hp:Zp (s.1.1,s.1.2) (h:Int)=putS s.1 (h:Int):=rfl
   have hp2:Zp (s.2.2.1,s.2.2.2) (h:Int)=putS s.2.2 (h:Int):=rfl
   have b1:Nat.ble ((s.2.1.length+1)*8) limit=true:=Nat.ble_eq_true_of_le (by unfold limit;omega)
   have key:=ih (meet1 l x own a h s)
   rw[Zi,hT,ZfX,←hT]
   simp only[Ze,ZR hh,nng,hx1,hx2,Bool.and_self,if_true,Int.toNat_natCast,ec,et,hp,hp2,b1,Zr (k:=h) (by omega)]
   by_cases c1:clB l x.toNat h=true
   ·rw[if_neg (by rw[c1];decide)]
    by_cases c2:thA l h=own
    ·rw[if_neg (by simp[c2])]
     by_cases c3:x=a
     ·have hm:meet1 l x own a h s=s:=by unfold meet1;rw[if_pos c1,if_neg (by simp[c2]),if_neg (by simp[c3])]
      rw[hm] at key ⊢
      rw[if_neg (by simp[c3])]
      exact key (by omega)
     ·have hm:meet1 l x own a h s=(s.1,s.2.1,(putS s.2.2 (h:Int)).2):=by unfold meet1;rw[if_pos c1,if_neg (by simp[c2]),if_pos c3]
      rw[hm] at key ⊢
      rw[if_pos (by simpa using c3)]
      exact key (by show s.2.1.length≤_;omega)
    ·rw[if_pos (by simpa using c2)]
     by_cases c4:(putS s.1 (h:Int)).1=true
     ·have hm:meet1 l x own a h s=((putS s.1 (h:Int)).2,s.2.1++[(h:Int)],s.2.2):=by unfold meet1;rw[if_pos c1,if_pos c2,if_pos c4]
      rw[hm] at key ⊢
      rw[if_pos c4]
      exact key (by show (s.2.1++[(h:Int)]).length≤_;simp;omega)
     ·have hm:meet1 l x own a h s=((putS s.1 (h:Int)).2,s.2.1,s.2.2):=by unfold meet1;rw[if_pos c1,if_pos c2,if_neg c4]
      rw[hm] at key ⊢
      rw[if_neg c4]
      exact key (by show s.2.1.length≤_;omega)
   ·have hm:meet1 l x own a h s=s:=by unfold meet1;rw[if_neg c1]
    rw[hm] at key ⊢
    rw[if_pos (by simpa using c1)]
    exact key (by omega)
 exact loop 0 (Nat.zero_le _) (come,open_,back) (by simp)
end Go.Ev
end

section
open Go Go.Ev
namespace Go.Ev
noncomputable section
noncomputable def Zs2:Run:=entO Zlj ZiW (fun a=>ZfZ a.1 a.2.1 a.2.2.1 a.2.2.2.1 a.2.2.2.2.1 a.2.2.2.2.2.1 a.2.2.2.2.2.2.1) (fun a=>ZV a.1 a.2.1 a.2.2.1 a.2.2.2.1 a.2.2.2.2.1 a.2.2.2.2.2.1 a.2.2.2.2.2.2.1)
theorem ZzZ:EntOK Go.Proofs.Tryz.prog 64 Zs2:=ZIH (tb:=Zla) (c:=ZfY) (Zoi (ZiX (fn:=Go.Proofs.Tryz.f64) (c:=ZfY) (by kernel_rfl) (by kernel_rfl) (by kernel_rfl))) ZAm (by kernel_rfl) (by kernel_rfl) (fun a=>by kernel_rfl) fun ⟨x,l,own,come,open_,a,back,_⟩ hk=>Zm (c:=ZfY) (K:=ZiW) (S:=ZcO x l own come open_ a back) (by kernel_rfl) (ZzB x l own come open_ a back) (ZAl x l own come open_ a back) (ZAP x l own come open_ a back hk)
end
end Go.Ev
end

section
open Go Go.Ev
namespace Go.Ev
noncomputable section
def Zda:Sig:=[(true,Zc),(false,(.sl Zb)),(false,(.int .i64))]
noncomputable def ZnA:Tbl:=[(37,Zkt),(38,ZtF),(39,ZcN),(40,Zf0)]
theorem ZAr:∀p∈ZnA,EntOK Go.Proofs.Tryz.prog p.1 p.2:=Zg Zln (Zg Zxw (Zg Zb6 (Zg ZeH (Zu))))
noncomputable def ZiG:Code:=Go.Proofs.Tryz.f66.body.getD .skip
def ZkL:Tb:=[(6,⟨[1,2,7,9,32,33,34,58,64,69,70,72,76],[]⟩),(14,⟨[2,7,9,12,42,43,44],[(13,72)]⟩)]
inductive ZfW where | l6 (h:Int) (x:Int) (x1:Int) (x2:Int) (x3:Int) (x4:Bool) (x5:Bool) (from_:Int) (h1:List Int) (from_1:List (Int×Int)) (h2:Int) | l14 (x:Int) (x1:Int) (x2:Int) (x3:Int) (x4:Bool) (x5:Bool) (from_:Int) (from_1:List (Int×Int)) (h:Int) (out:List Int)
def Zbe (p:El Zc) (l:List (El Zb)) (c:Int):ZfW→JT ZfW (List Int) |.l6 h x x1 x2 x3 x4 x5 from_ h1 from_1 h2=>.br (decide (h2 < h)) (.br ((decide ((0:Int)≤h2))&&(decide (h2 < (Int.ofNat (List.length h1))))) (.jmp (.l6 h x x1 x2 x3 x4 x5 (Zp (from_,from_1) (List.getD h1 (Int.toNat h2) (dflt (.int .i64)))).2.1 h1 (Zp (from_,from_1) (List.getD h1 (Int.toNat h2) (dflt (.int .i64)))).2.2 (IntKind.i64.wrap (h2+(1:Int))))) (.no)) (.jmp (.l14 x x1 x2 x3 x4 x5 from_ from_1 (0:Int) [])) |.l14 x x1 x2 x3 x4 x5 from_ from_1 h out=>.br (decide (h < (Int.ofNat (List.length l)))) (.br ((decide ((0:Int)≤h))&&(decide (h < (Int.ofNat (List.length l))))) (.br ((List.getD l (Int.toNat h) (dflt Zb)).1==x) (.br (h==c) (.br (Nat.ble (((List.length out)+1)*8) limit) (.jmp (.l14 x x1 x2 x3 x4 x5 from_ from_1 (IntKind.i64.wrap (h+(1:Int))) (out++[h]))) (.no)) (.br ((List.getD l (Int.toNat h) (dflt Zb)).2.1==x1) (.br (decide ((List.getD l (Int.toNat h) (dflt Zb)).2.2.1 > x2)) (.br (Nat.ble (((List.length out)+1)*8) limit) (.jmp (.l14 x x1 x2 x3 x4 x5 from_ from_1 (IntKind.i64.wrap (h+(1:Int))) (out++[h]))) (.no)) (.br (Zo (from_,from_1) (List.getD l (Int.toNat h) (dflt Zb)).2.1).1 (.br (Nat.ble (((List.length out)+1)*8) limit) (.jmp (.l14 x x1 x2 x3 x4 x5 (Zo (from_,from_1) (List.getD l (Int.toNat h) (dflt Zb)).2.1).2.1 (Zo (from_,from_1) (List.getD l (Int.toNat h) (dflt Zb)).2.1).2.2 (IntKind.i64.wrap (h+(1:Int))) (out++[h]))) (.no)) (.jmp (.l14 x x1 x2 x3 x4 x5 (Zo (from_,from_1) (List.getD l (Int.toNat h) (dflt Zb)).2.1).2.1 (Zo (from_,from_1) (List.getD l (Int.toNat h) (dflt Zb)).2.1).2.2 (IntKind.i64.wrap (h+(1:Int))) out)))) (.br (Zo (from_,from_1) (List.getD l (Int.toNat h) (dflt Zb)).2.1).1 (.br (Nat.ble (((List.length out)+1)*8) limit) (.jmp (.l14 x x1 x2 x3 x4 x5 (Zo (from_,from_1) (List.getD l (Int.toNat h) (dflt Zb)).2.1).2.1 (Zo (from_,from_1) (List.getD l (Int.toNat h) (dflt Zb)).2.1).2.2 (IntKind.i64.wrap (h+(1:Int))) (out++[h]))) (.no)) (.jmp (.l14 x x1 x2 x3 x4 x5 (Zo (from_,from_1) (List.getD l (Int.toNat h) (dflt Zb)).2.1).2.1 (Zo (from_,from_1) (List.getD l (Int.toNat h) (dflt Zb)).2.1).2.2 (IntKind.i64.wrap (h+(1:Int))) out))))) (.jmp (.l14 x x1 x2 x3 x4 x5 from_ from_1 (IntKind.i64.wrap (h+(1:Int))) out))) (.no)) (.leaf out)
def ZkW (p:El Zc) (l:List (El Zb)) (c:Int):JT ZfW (List Int):=.br ((decide ((0:Int)≤c))&&(decide (c < (Int.ofNat (List.length l))))) (.br ((decide ((0:Int)≤(List.getD l (Int.toNat c) (dflt Zb)).1))&&(decide ((List.getD l (Int.toNat c) (dflt Zb)).1 < (Int.ofNat (List.length p.2))))) (.br (Zih (List.getD p.2 (Int.toNat (List.getD l (Int.toNat c) (dflt Zb)).1) (dflt (.sl Za))) (List.getD l (Int.toNat c) (dflt Zb)).2.1) (.jmp (.l6 (Int.ofNat (List.length (Zbu (List.getD p.2 (Int.toNat (List.getD l (Int.toNat c) (dflt Zb)).1) (dflt (.sl Za))) (List.getD l (Int.toNat c) (dflt Zb)).2.1))) (List.getD l (Int.toNat c) (dflt Zb)).1 (List.getD l (Int.toNat c) (dflt Zb)).2.1 (List.getD l (Int.toNat c) (dflt Zb)).2.2.1 (List.getD l (Int.toNat c) (dflt Zb)).2.2.2.1 (List.getD l (Int.toNat c) (dflt Zb)).2.2.2.2.1 (List.getD l (Int.toNat c) (dflt Zb)).2.2.2.2.2 (Zy (Int.ofNat (List.length (List.getD p.2 (Int.toNat (List.getD l (Int.toNat c) (dflt Zb)).1) (dflt (.sl Za)))))).1 (Zbu (List.getD p.2 (Int.toNat (List.getD l (Int.toNat c) (dflt Zb)).1) (dflt (.sl Za))) (List.getD l (Int.toNat c) (dflt Zb)).2.1) (Zy (Int.ofNat (List.length (List.getD p.2 (Int.toNat (List.getD l (Int.toNat c) (dflt Zb)).1) (dflt (.sl Za)))))).2 (0:Int))) (.no)) (.no)) (.no)
def ZiV:List Int→AV:=fun (r:List Int)=>.rw 3 (.int .i64) r
def ZcZ (p:El Zc) (l:List (El Zb)) (c:Int):ZfW→Nat×St |.l6 h x x1 x2 x3 x4 x5 from_ h1 from_1 h2=>(6,⟨mkTm 85 [(1,.d (.sl Zb) l),(2,.d (.int .i64) c),(7,.pt 8 0 0),(9,.pt 10 0 0),(32,.own 33 0 none),(33,.d (.int .i64) h),(34,.d (.int .i64) h2)],[(8,0,.box 70 [.d (.int .i64) x,.d (.int .i64) x1,.d (.int .i64) x2,.d (.int .i64) x3,.d .bool x4,.d .bool x5] none),(10,0,.box 98 [.d (.int .i64) from_,.mp 10242 0] none),(33,0,.row 3 (.int .i64) h1 false),(10242,0,.map (.int .i64) (.int .u64) from_1)]⟩) |.l14 x x1 x2 x3 x4 x5 from_ from_1 h out=>(14,⟨mkTm 85 [(2,.d (.int .i64) c),(7,.pt 8 0 0),(9,.pt 10 0 0),(12,.own 13 0 none),(42,.d (.sl Zb) l),(43,.d (.int .i64) (Int.ofNat (List.length l))),(44,.d (.int .i64) h)],[(8,0,.box 70 [.d (.int .i64) x,.d (.int .i64) x1,.d (.int .i64) x2,.d (.int .i64) x3,.d .bool x4,.d .bool x5] none),(10,0,.box 98 [.d (.int .i64) from_,.mp 10242 0] none),(13,0,.row 3 (.int .i64) out false),(10242,0,.map (.int .i64) (.int .u64) from_1)]⟩)
theorem Zza (p:El Zc) (l:List (El Zb)) (c:Int) (L:Lt):entryA Go.Proofs.Tryz.prog (clOf ZnA) ZkL Go.Proofs.Tryz.f66 ZiG L (toForms Zda (p,l,c,()))=(ZkW p l c).run (fun v=>some (ZiV v,tps (toForms Zda (p,l,c,())))) fun j=>L (ZcZ p l c j).1 (ZcZ p l c j).2:=by kernel_rfl
theorem ZyV (p:El Zc) (l:List (El Zb)) (c:Int):∀(L:Lt) (j:ZfW),procOf (procsF Go.Proofs.Tryz.prog (clOf ZnA) ZkL Go.Proofs.Tryz.f66 ZiG (toForms Zda (p,l,c,()))) (ZcZ p l c j).1 L (ZcZ p l c j).2=(Zbe p l c j).run (fun v=>some (ZiV v,tps (toForms Zda (p,l,c,())))) fun j=>L (ZcZ p l c j).1 (ZcZ p l c j).2 | L,.l6 h x x1 x2 x3 x4 x5 from_ h1 from_1 h2=>by kernel_rfl | L,.l14 x x1 x2 x3 x4 x5 from_ from_1 h out=>by kernel_rfl
end
end Go.Ev
end

section
open Go
namespace Go.Ev
noncomputable def Zb0 (p:El Zc) (l:List (El Zb)) (c:Int):List Int:=listOf l.length (behB p l c.toNat)
def Zea (p:El Zc) (l:List (El Zb)) (c:Int):Bool:=decide (0≤c∧c < (l.length:Int)∧l.length < 1099511627776)&&(decide (0≤thA l c.toNat∧thA l c.toNat < (p.2.length:Int))&&flowOK (thrOf p l c.toNat))
theorem ZBt (p:El Zc) (l:List (El Zb)) (c:Int) (hk:Zea p l c=true):Goes (Zbe p l c) (ZkW p l c) (Zb0 p l c):=by
 unfold Zea at hk
 simp only[Bool.and_eq_true,decide_eq_true_eq] at hk
 obtain ⟨⟨c0,c1,hN⟩,⟨t0,t1⟩,hf⟩:=hk
 obtain ⟨c,rfl⟩:=Int.eq_ofNat_of_zero_le c0
 rw[Int.toNat_natCast] at t0 t1 hf
 have hc:c < l.length:=by omega
 have htl:=Zby hf
 obtain ⟨t,ht⟩:∃t,thrOf p l c=t:=⟨_,rfl⟩
 have hg:List.getD p.2 (Int.toNat (List.getD l c (dflt Zb)).1) (dflt (.sl Za))=t:=ht
 rw[ht] at hf htl
 have kf:Zih t (List.getD l c (dflt Zb)).2.1=true:=hf
 obtain ⟨L,hL⟩:∃L,Zbu t (List.getD l c (dflt Zb)).2.1=L:=⟨_,rfl⟩
 have hLl:L.length≤t.length:=by rw[←hL];unfold Zbu;rw[Zhr];exact Zes
 have hmem:∀x,x∈L↔∃i:Nat,i < t.length∧fromB t (inA l c) i=true∧x=(i:Int):=fun x=>by rw[←hL];exact Zcm
 unfold ZkW Zb0
 rw[Ze,if_pos (Zaq hc),Ze,Int.toNat_natCast]
 have hth:(decide ((0:Int)≤(List.getD l c (dflt Zb)).1)&&decide ((List.getD l c (dflt Zb)).1 < Int.ofNat p.2.length))=true:=by
  rw[Bool.and_eq_true,decide_eq_true_eq,decide_eq_true_eq];exact ⟨t0,t1⟩
 rw[if_pos hth,Ze,hg,if_pos kf,hL]
 have hnew:Zy (Int.ofNat (List.length t))=(((t.length:Nat):Int),[]):=by
  unfold Zy
  simp
  omega
 rw[hnew]
 have second:∀(s:Int×List (Int×Int)),SetOK s t.length (fromB t (inA l c))→∀h,h≤l.length→∀out:List Int,out.length≤h→
   Goes (Zbe p l (c:Int)) (.jmp (.l14 (List.getD l c (dflt Zb)).1 (List.getD l c (dflt Zb)).2.1 (List.getD l c (dflt Zb)).2.2.1 (List.getD l c (dflt Zb)).2.2.2.1 (List.getD l c (dflt Zb)).2.2.2.2.1 (List.getD l c (dflt Zb)).2.2.2.2.2 s.1 s.2 (h:Int) out)) (out++listR l.length (behB p l c) h):=by
  intro s hs
  refine down ?_ fun h hh ih=>?_
  ·intro out ho
   rw[Zi,Zbe,Ze,if_neg (by rw[Zw (Nat.lt_irrefl _)];decide),ZMZ,List.append_nil]
   exact .leaf
  ·intro out ho
   have b1:Nat.ble ((out.length+1)*8) limit=true:=Nat.ble_eq_true_of_le (by unfold limit;omega)
   have hhas:Zo (s.1,s.2) (inA l h)=(decide (0≤inA l h)&&fromB t (inA l c) (inA l h).toNat,s):=by
    show (hasS s (inA l h),s)=_
    rw[hs.has (by omega)]
   have add:behB p l c h=true→Goes (Zbe p l (c:Int)) (.jmp (.l14 (List.getD l c (dflt Zb)).1 (List.getD l c (dflt Zb)).2.1 (List.getD l c (dflt Zb)).2.2.1 (List.getD l c (dflt Zb)).2.2.2.1 (List.getD l c (dflt Zb)).2.2.2.2.1 (List.getD l c (dflt Zb)).2.2.2.2.2 s.1 s.2 ((h+1:Nat):Int) (out++[(h:Int)]))) (out++listR l.length (behB p l c) h):=fun hb=>by
    rw[ZCo hh,if_pos hb]
    have:=ih (out++[(h:Int)]) (by simp;omega)
    rwa[List.append_assoc] at this
   have skip:behB p l c h=false→Goes (Zbe p l (c:Int)) (.jmp (.l14 (List.getD l c (dflt Zb)).1 (List.getD l c (dflt Zb)).2.1 (List.getD l c (dflt Zb)).2.2.1 (List.getD l c (dflt Zb)).2.2.2.1 (List.getD l c (dflt Zb)).2.2.2.2.1 (List.getD l c (dflt Zb)).2.2.2.2.2 s.1 s.2 ((h+1:Nat):Int) out)) (out++listR l.length (behB p l c) h):=fun hb=>by
    rw[ZCo hh,hb,if_neg (by decide)]
    exact ih out (by omega)
   have e1:(List.getD l h (dflt Zb)).1=thA l h:=rfl
   have e2:(List.getD l h (dflt Zb)).2.1=inA l h:=rfl
   have e3:(List.getD l h (dflt Zb)).2.2.1=paA l h:=rfl
   have f1:(List.getD l c (dflt Zb)).1=thA l c:=rfl
   have f2:(List.getD l c (dflt Zb)).2.1=inA l c:=rfl
   have f3:(List.getD l c (dflt Zb)).2.2.1=paA l c:=rfl
   have hbe:behB p l c h=(thA l h==thA l c&&(h==c || ((inA l h==inA l c&&decide (paA l h > paA l c)) || (decide (0≤inA l h)&&fromB t (inA l c) (inA l h).toNat)))):=by
    unfold behB
    rw[decide_eq_true hh,Bool.true_and,ht]
   have hhc:((h:Int)==(c:Int))=(h==c):=by
    by_cases e:h=c
    ·subst e;simp
    ·have:(h==c)=false:=by simpa using e
     rw[this];simp;omega
   rw[Zi,Zbe]
   simp only[Ze,ZR hh,nng,Bool.and_self,if_true,Int.toNat_natCast,b1,Zr (k:=h) (by omega),e1,e2,e3,hhas,hhc]
   rw[f1,f2,f3] at*
   generalize hq:(decide (0≤inA l h)&&fromB t (inA l c) (inA l h).toNat)=q at*
   by_cases c1:(thA l h==thA l c)=true
   ·rw[if_pos c1]
    rw[c1,Bool.true_and] at hbe
    by_cases c2:(h==c)=true
    ·rw[if_pos c2]
     rw[c2,Bool.true_or] at hbe
     exact add hbe
    ·rw[if_neg c2]
     rw[Bool.eq_false_iff.2 c2,Bool.false_or] at hbe
     by_cases c3:(inA l h==inA l c)=true
     ·rw[if_pos c3]
      rw[c3,Bool.true_and] at hbe
      by_cases c4:decide (paA l h > paA l c)=true
      ·rw[if_pos c4]
       rw[c4,Bool.true_or] at hbe
       exact add hbe
      ·rw[if_neg c4]
       rw[Bool.eq_false_iff.2 c4,Bool.false_or] at hbe
       cases q with
       | true=>rw[if_pos rfl];exact add hbe
       | false=>rw[if_neg (by decide)];exact skip hbe
     ·rw[if_neg c3]
      rw[Bool.eq_false_iff.2 c3,Bool.false_and,Bool.false_or] at hbe
      cases q with
      | true=>rw[if_pos rfl];exact add hbe
      | false=>rw[if_neg (by decide)];exact skip hbe
   ·rw[if_neg c1]
    rw[Bool.eq_false_iff.2 c1,Bool.false_and] at hbe
    exact skip hbe
 have first:∀h,h≤L.length→∀(s:Int×List (Int×Int)),SetOK s t.length (fun j=>(L.take h).contains (j:Int))→
   Goes (Zbe p l (c:Int)) (.jmp (.l6 (Int.ofNat L.length) (List.getD l c (dflt Zb)).1 (List.getD l c (dflt Zb)).2.1 (List.getD l c (dflt Zb)).2.2.1 (List.getD l c (dflt Zb)).2.2.2.1 (List.getD l c (dflt Zb)).2.2.2.2.1 (List.getD l c (dflt Zb)).2.2.2.2.2 s.1 L s.2 (h:Int))) (listOf l.length (behB p l c)):=by
  refine down ?_ fun h hh ih=>?_
  ·intro s hs
   rw[Zi,Zbe,Ze,if_neg (by simp)]
   have:=second s (hs.congr' fun j=>by
    rw[List.take_length,Bool.eq_iff_iff,List.contains_iff_mem,hmem]
    constructor
    ·rintro ⟨i,_,h1,h2⟩;have:j=i:=by omega
     subst this;exact h1
    ·intro h;exact ⟨j,ZNk h,h,rfl⟩) 0 (Nat.zero_le _) [] (Nat.le_refl _)
   rwa[List.nil_append,ZKN] at this
  ·intro s hs
   obtain ⟨i,hi,_,hie⟩:=(hmem L[h]).1 (List.getElem_mem hh)
   obtain ⟨_,p2⟩:=hs.putO (by omega) hi
   have hp:Zp (s.1,s.2) (i:Int)=putS s (i:Int):=rfl
   rw[Zi,Zbe,Ze,if_pos (ZR hh),Ze,if_pos (Zaq hh),Int.toNat_natCast,ZH hh,hie,hp,Zr (by omega)]
   refine ih _ (p2.congr' fun j=>?_)
   rw[List.take_succ_eq_append_getElem hh,Bool.eq_iff_iff,Bool.or_eq_true,List.contains_iff_mem,List.contains_iff_mem,List.mem_append,List.mem_singleton,hie,beq_iff_eq]
   exact or_congr Iff.rfl (by omega)
 exact first 0 (Nat.zero_le _) (((t.length:Nat):Int),[]) ((SetOK.new t.length).congr' fun j=>by simp)
end Go.Ev
end

section
open Go Go.Ev
namespace Go.Ev
noncomputable section
noncomputable def Zs5:Run:=entG Zda ZiV (fun a=>Zea a.1 a.2.1 a.2.2.1) (fun a=>Zb0 a.1 a.2.1 a.2.2.1)
theorem ZyX:EntOK Go.Proofs.Tryz.prog 66 Zs5:=ZM (tb:=ZkL) (c:=ZiG) ZAr (by kernel_rfl) (by kernel_rfl) (by kernel_rfl) (fun a=>by kernel_rfl) fun ⟨p,l,c,_⟩ hk=>Zm (c:=ZiG) (K:=fun v=>(ZiV v,tps (toForms Zda (p,l,c,())))) (S:=ZcZ p l c) (by kernel_rfl) (Zza p l c) (ZyV p l c) (ZBt p l c hk)
end
end Go.Ev
end

section
open Go Go.Ev
namespace Go.Ev
noncomputable section
def ZfF:Sig:=[(true,Zc),(false,(.int .i64))]
noncomputable def Zr6:Tbl:=[(35,ZwC),(37,Zkt),(64,Zs2),(66,Zs5),(39,ZcN),(62,Zh3)]
theorem ZEl:∀p∈Zr6,EntOK Go.Proofs.Tryz.prog p.1 p.2:=Zg Zzd (Zg Zln (Zg ZzZ (Zg ZyX (Zg Zb6 (Zg ZjC (Zu))))))
noncomputable def ZmV:Code:=Go.Proofs.Tryz.f41.body.getD .skip
def Zos:Tb:=[(11,⟨[2,5,7,9,10,11],[]⟩),(17,⟨[2,5,7,9,10,11,54,55,56],[]⟩),(hintK,⟨[],[(1,72)]⟩)]
inductive Zi8 where | l11 (l:List (El Zb)) (back:Int) (open_:List Int) (meet:Int) (meet1:Int) (back1:List (Int×Int)) (meet2:Int) (meet3:List (Int×Int)) (gone:Int) (gone1:List (Int×Int)) | l17 (h:Int) (l:List (El Zb)) (h1:List Int) (back:Int) (open_:List Int) (meet:Int) (meet1:Int) (back1:List (Int×Int)) (meet2:Int) (meet3:List (Int×Int)) (h2:Int) (gone:Int) (gone1:List (Int×Int))
def Ze4 (p:El Zc) (a:Int):Zi8→JT Zi8 (List Int) |.l11 l back open_ meet meet1 back1 meet2 meet3 gone gone1=>.br (decide ((Int.ofNat (List.length open_)) > (0:Int))) (.br (decide ((0:Int) < (Int.ofNat (List.length open_)))) (.br (Nat.ble 1 (List.length open_)) (.br (Zea p l (List.getD open_ 0 (dflt (.int .i64)))) (.jmp (.l17 (Int.ofNat (List.length (Zb0 p l (List.getD open_ 0 (dflt (.int .i64)))))) l (Zb0 p l (List.getD open_ 0 (dflt (.int .i64)))) back (List.drop 1 open_) meet meet1 back1 meet2 meet3 (0:Int) gone gone1)) (.no)) (.no)) (.no)) (.br (Zbg (back,back1)) (.leaf (ZbM (back,back1)).1) (.no)) |.l17 h l h1 back open_ meet meet1 back1 meet2 meet3 h2 gone gone1=>.br (decide (h2 < h)) (.br ((decide ((0:Int)≤h2))&&(decide (h2 < (Int.ofNat (List.length h1))))) (.br (Zp (gone,gone1) (List.getD h1 (Int.toNat h2) (dflt (.int .i64)))).1 (.br (ZfZ (List.getD h1 (Int.toNat h2) (dflt (.int .i64))) l meet (meet2,meet3) open_ meet1 (back,back1)) (.jmp (.l17 h (ZV (List.getD h1 (Int.toNat h2) (dflt (.int .i64))) l meet (meet2,meet3) open_ meet1 (back,back1)).1 h1 (ZV (List.getD h1 (Int.toNat h2) (dflt (.int .i64))) l meet (meet2,meet3) open_ meet1 (back,back1)).2.2.2.2.2.1 (ZV (List.getD h1 (Int.toNat h2) (dflt (.int .i64))) l meet (meet2,meet3) open_ meet1 (back,back1)).2.2.2.1 (ZV (List.getD h1 (Int.toNat h2) (dflt (.int .i64))) l meet (meet2,meet3) open_ meet1 (back,back1)).2.1 (ZV (List.getD h1 (Int.toNat h2) (dflt (.int .i64))) l meet (meet2,meet3) open_ meet1 (back,back1)).2.2.2.2.1 (ZV (List.getD h1 (Int.toNat h2) (dflt (.int .i64))) l meet (meet2,meet3) open_ meet1 (back,back1)).2.2.2.2.2.2 (ZV (List.getD h1 (Int.toNat h2) (dflt (.int .i64))) l meet (meet2,meet3) open_ meet1 (back,back1)).2.2.1.1 (ZV (List.getD h1 (Int.toNat h2) (dflt (.int .i64))) l meet (meet2,meet3) open_ meet1 (back,back1)).2.2.1.2 (IntKind.i64.wrap (h2+(1:Int))) (Zp (gone,gone1) (List.getD h1 (Int.toNat h2) (dflt (.int .i64)))).2.1 (Zp (gone,gone1) (List.getD h1 (Int.toNat h2) (dflt (.int .i64)))).2.2)) (.no)) (.jmp (.l17 h l h1 back open_ meet meet1 back1 meet2 meet3 (IntKind.i64.wrap (h2+(1:Int))) (Zp (gone,gone1) (List.getD h1 (Int.toNat h2) (dflt (.int .i64)))).2.1 (Zp (gone,gone1) (List.getD h1 (Int.toNat h2) (dflt (.int .i64)))).2.2))) (.no)) (.jmp (.l11 l back open_ meet meet1 back1 meet2 meet3 gone gone1))
def ZoK (p:El Zc) (a:Int):JT Zi8 (List Int):=.br (ZnV p) (.br (decide (a < (0:Int))) (.leaf []) (.br (decide (a≥(Int.ofNat (List.length (ZC p))))) (.leaf []) (.br ((decide ((0:Int)≤a))&&(decide (a < (Int.ofNat (List.length (ZC p)))))) (.br (ZfZ a (ZC p) (List.getD (ZC p) (Int.toNat a) (dflt Zb)).1 (Zy (Int.ofNat (List.length (ZC p)))) [] a (Zy (Int.ofNat (List.length (ZC p))))) (.jmp (.l11 (ZV a (ZC p) (List.getD (ZC p) (Int.toNat a) (dflt Zb)).1 (Zy (Int.ofNat (List.length (ZC p)))) [] a (Zy (Int.ofNat (List.length (ZC p))))).1 (ZV a (ZC p) (List.getD (ZC p) (Int.toNat a) (dflt Zb)).1 (Zy (Int.ofNat (List.length (ZC p)))) [] a (Zy (Int.ofNat (List.length (ZC p))))).2.2.2.2.2.1 (ZV a (ZC p) (List.getD (ZC p) (Int.toNat a) (dflt Zb)).1 (Zy (Int.ofNat (List.length (ZC p)))) [] a (Zy (Int.ofNat (List.length (ZC p))))).2.2.2.1 (ZV a (ZC p) (List.getD (ZC p) (Int.toNat a) (dflt Zb)).1 (Zy (Int.ofNat (List.length (ZC p)))) [] a (Zy (Int.ofNat (List.length (ZC p))))).2.1 (ZV a (ZC p) (List.getD (ZC p) (Int.toNat a) (dflt Zb)).1 (Zy (Int.ofNat (List.length (ZC p)))) [] a (Zy (Int.ofNat (List.length (ZC p))))).2.2.2.2.1 (ZV a (ZC p) (List.getD (ZC p) (Int.toNat a) (dflt Zb)).1 (Zy (Int.ofNat (List.length (ZC p)))) [] a (Zy (Int.ofNat (List.length (ZC p))))).2.2.2.2.2.2 (ZV a (ZC p) (List.getD (ZC p) (Int.toNat a) (dflt Zb)).1 (Zy (Int.ofNat (List.length (ZC p)))) [] a (Zy (Int.ofNat (List.length (ZC p))))).2.2.1.1 (ZV a (ZC p) (List.getD (ZC p) (Int.toNat a) (dflt Zb)).1 (Zy (Int.ofNat (List.length (ZC p)))) [] a (Zy (Int.ofNat (List.length (ZC p))))).2.2.1.2 (Zy (Int.ofNat (List.length (ZC p)))).1 (Zy (Int.ofNat (List.length (ZC p)))).2)) (.no)) (.no)))) (.no)
def Zmo:List Int→AV:=fun (r:List Int)=>.rw 3 (.int .i64) r
def ZeM (p:El Zc) (a:Int):Zi8→Nat×St |.l11 l back open_ meet meet1 back1 meet2 meet3 gone gone1=>(11,⟨mkTm 69 [(2,.pt 3 0 0),(5,.pt 6 0 0),(7,.pt 8 0 0),(9,.pt 10 0 0),(10,.pt 11 0 0),(11,.fn 64 [.pt 6 0 0,.pt 12290 0 0,.pt 12291 0 0,.pt 11 0 0,.pt 12293 0 0,.pt 8 0 0])],[(3,0,.box 26 [.d (.sl Zx) p.1,.d (.sl (.sl Za)) p.2] none),(6,0,.box 67 [.d (.sl Zb) l] none),(8,0,.box 80 [.pt 8193 0 0] none),(10,0,.box 98 [.d (.int .i64) gone,.mp 10242 0] none),(11,0,.box 36 [.own 11265 0 none] none),(8193,0,.box 98 [.d (.int .i64) back,.mp 8389634 0] none),(10242,0,.map (.int .i64) (.int .u64) gone1),(11265,0,.row 3 (.int .i64) open_ false),(12290,0,.box 3 [.d (.int .i64) meet] none),(12291,0,.box 80 [.pt 12585985 0 0] none),(12293,0,.box 3 [.d (.int .i64) meet1] none),(8389634,0,.map (.int .i64) (.int .u64) back1),(12585985,0,.box 98 [.d (.int .i64) meet2,.mp 12888048642 0] none),(12888048642,0,.map (.int .i64) (.int .u64) meet3)]⟩) |.l17 h l h1 back open_ meet meet1 back1 meet2 meet3 h2 gone gone1=>(17,⟨mkTm 69 [(2,.pt 3 0 0),(5,.pt 6 0 0),(7,.pt 8 0 0),(9,.pt 10 0 0),(10,.pt 11 0 0),(11,.fn 64 [.pt 6 0 0,.pt 12290 0 0,.pt 12291 0 0,.pt 11 0 0,.pt 12293 0 0,.pt 8 0 0]),(54,.own 55 0 none),(55,.d (.int .i64) h),(56,.d (.int .i64) h2)],[(3,0,.box 26 [.d (.sl Zx) p.1,.d (.sl (.sl Za)) p.2] none),(6,0,.box 67 [.d (.sl Zb) l] none),(8,0,.box 80 [.pt 8193 0 0] none),(10,0,.box 98 [.d (.int .i64) gone,.mp 10242 0] none),(11,0,.box 36 [.own 11265 0 none] none),(55,0,.row 3 (.int .i64) h1 false),(8193,0,.box 98 [.d (.int .i64) back,.mp 8389634 0] none),(10242,0,.map (.int .i64) (.int .u64) gone1),(11265,0,.row 3 (.int .i64) open_ false),(12290,0,.box 3 [.d (.int .i64) meet] none),(12291,0,.box 80 [.pt 12585985 0 0] none),(12293,0,.box 3 [.d (.int .i64) meet1] none),(8389634,0,.map (.int .i64) (.int .u64) back1),(12585985,0,.box 98 [.d (.int .i64) meet2,.mp 12888048642 0] none),(12888048642,0,.map (.int .i64) (.int .u64) meet3)]⟩)
theorem ZDK (p:El Zc) (a:Int) (L:Lt):entryA Go.Proofs.Tryz.prog (clOf Zr6) Zos Go.Proofs.Tryz.f41 ZmV L (toForms ZfF (p,a,()))=(ZoK p a).run (fun v=>some (Zmo v,tps (toForms ZfF (p,a,())))) fun j=>L (ZeM p a j).1 (ZeM p a j).2:=by kernel_rfl
theorem ZFv (p:El Zc) (a:Int):∀(L:Lt) (j:Zi8),procOf (procsF Go.Proofs.Tryz.prog (clOf Zr6) Zos Go.Proofs.Tryz.f41 ZmV (toForms ZfF (p,a,()))) (ZeM p a j).1 L (ZeM p a j).2=(Ze4 p a j).run (fun v=>some (Zmo v,tps (toForms ZfF (p,a,())))) fun j=>L (ZeM p a j).1 (ZeM p a j).2 | L,.l11 l back open_ meet meet1 back1 meet2 meet3 gone gone1=>by kernel_rfl | L,.l17 h l h1 back open_ meet meet1 back1 meet2 meet3 h2 gone gone1=>by kernel_rfl
end
end Go.Ev
end

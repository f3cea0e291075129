/- Part of the proof of: Without any one of the points that are chosen an open delay is not cut: for every input the law answers true. -/
import Derived.Shelf.Slices.In.SortNone
import Derived.Shelf.Sort.Plain
import Derived.Test.YtmiogacaacbdjaaGreatDoorCon0
set_option maxRecDepth 100000
set_option linter.unusedSectionVars false
set_option linter.unusedVariables false
set_option linter.unusedSimpArgs false
section
open Go Go.Ev
namespace Go.Ev
noncomputable section
def ZfM:Sig:=[(true,Za)]
noncomputable def ZqR:Tbl:=[(74,Zb7),(94,Zmx)]
theorem ZCK:∀p∈ZqR,EntOK Go.Proofs.Tryz.prog p.1 p.2:=Zg Zcu (Zg Zob (Zt))
noncomputable def Zmq:Code:=Go.Proofs.Tryz.f72.body.getD .skip
def ZpD:Tb:=[]
def ZxB (i:El Za):Empty→JT Empty (Bool×Bool):=fun j=>nomatch j
def Zvs (i:El Za):JT Empty (Bool×Bool):=.br (ZC i) (.br ((ZB i) !=(0:Int)) (.leaf (false,false)) (.br (i.1 !=(10:Int)) (.leaf ((i.1 !=(14:Int)),(ZaI i.1))) (.leaf (false,(ZaI i.1))))) (.no)
def Zdf (i:El Za):Bool×Bool:=bif (ZC i) then bif ((ZB i) !=(0:Int)) then (false,false) else bif (i.1 !=(10:Int)) then ((i.1 !=(14:Int)),(ZaI i.1)) else (false,(ZaI i.1)) else (false,false)
def Zjd (i:El Za):Bool:=bif (ZC i) then bif ((ZB i) !=(0:Int)) then true else bif (i.1 !=(10:Int)) then true else true else false
theorem ZFU (i:El Za) (hk:Zjd i=true):Goes (ZxB i) (Zvs i) (Zdf i):=Goes.brk hk (fun hk=>Goes.brk hk (fun hk=>Goes.leaf) (fun hk=>Goes.brk hk (fun hk=>Goes.leaf) (fun hk=>Goes.leaf))) (fun hk=>Goes.nok hk)
def Zmb:Bool×Bool→AV:=fun (r:Bool×Bool)=>.tu [.d .bool r.1,.d .bool r.2]
def ZeV (i:El Za):Empty→Nat×St:=fun j=>nomatch j
theorem ZEV (i:El Za) (L:Lt):entryA Go.Proofs.Tryz.prog (clOf ZqR) ZpD Go.Proofs.Tryz.f72 Zmq L (toForms ZfM (i,()))=(Zvs i).run (fun v=>some (Zmb v,tps (toForms ZfM (i,())))) fun j=>L (ZeV i j).1 (ZeV i j).2:=by kernel_rfl
theorem ZDm (i:El Za):∀(L:Lt) (j:Empty),procOf (procsF Go.Proofs.Tryz.prog (clOf ZqR) ZpD Go.Proofs.Tryz.f72 Zmq (toForms ZfM (i,()))) (ZeV i j).1 L (ZeV i j).2=(ZxB i j).run (fun v=>some (Zmb v,tps (toForms ZfM (i,())))) fun j=>L (ZeV i j).1 (ZeV i j).2:=fun L j=>nomatch j
noncomputable def Zxd:Run:=entG ZfM Zmb (fun a=>Zjd a.1) (fun a=>Zdf a.1)
theorem ZCH:EntOK Go.Proofs.Tryz.prog 72 Zxd:=ZM (tb:=ZpD) (c:=Zmq) ZCK (by kernel_rfl) (by kernel_rfl) (by kernel_rfl) (fun a=>by kernel_rfl) fun ⟨i,_⟩ hk=>Zm (c:=Zmq) (K:=fun v=>(Zmb v,tps (toForms ZfM (i,())))) (S:=ZeV i) (by kernel_rfl) (ZEV i) (ZDm i) (ZFU i hk)
end
end Go.Ev
end

section
open Go Go.Ev
namespace Go.Ev
noncomputable section
def ZgU:Sig:=[(true,(.sl Za)),(false,(.int .i64))]
noncomputable def Zt7:Tbl:=[(72,Zxd),(73,ZtR)]
theorem ZIp:∀p∈Zt7,EntOK Go.Proofs.Tryz.prog p.1 p.2:=Zg ZCH (Zg Zxr (Zt))
noncomputable def Zoc:Code:=Go.Proofs.Tryz.f45.body.getD .skip
def Zrc:Tb:=[(6,⟨[1,2,5,7],[]⟩)]
inductive Zlk where | l6 (jumps:Bool) (is:List Bool)
def Zpk (t:List (El Za)) (i:Int):Zlk→JT Zlk (List Bool) |.l6 jumps is=>.br jumps (.br ((decide ((0:Int)≤i))&&(decide (i < (Int.ofNat (List.length t))))) (.br (Zes t (List.getD t (Int.toNat i) (dflt Za)).2.2.2.2.2.1) (.br (decide ((ZcH t (List.getD t (Int.toNat i) (dflt Za)).2.2.2.2.2.1)≥(0:Int))) (.br ((decide ((0:Int)≤(ZcH t (List.getD t (Int.toNat i) (dflt Za)).2.2.2.2.2.1)))&&(decide ((ZcH t (List.getD t (Int.toNat i) (dflt Za)).2.2.2.2.2.1) < (Int.ofNat (List.length is))))) (.leaf (List.set is (Int.toNat (ZcH t (List.getD t (Int.toNat i) (dflt Za)).2.2.2.2.2.1)) true)) (.no)) (.leaf is)) (.no)) (.no)) (.leaf is)
def ZqI (t:List (El Za)) (i:Int):JT Zlk (List Bool):=.br ((((Int.ofNat (List.length t))==(Int.ofNat (List.length t)))&&(decide ((0:Int)≤(Int.ofNat (List.length t)))))&&(decide (((Int.ofNat (List.length t))*(1:Int))≤(limit:Int)))) (.br (decide (i < (0:Int))) (.leaf (List.replicate (List.length t) false)) (.br (decide (i≥(Int.ofNat (List.length t)))) (.leaf (List.replicate (List.length t) false)) (.br ((decide ((0:Int)≤i))&&(decide (i < (Int.ofNat (List.length t))))) (.br (Zjd (List.getD t (Int.toNat i) (dflt Za))) (.br (Zdf (List.getD t (Int.toNat i) (dflt Za))).1 (.br (decide ((IntKind.i64.wrap (i+(1:Int))) < (Int.ofNat (List.length t)))) (.br ((decide ((0:Int)≤(IntKind.i64.wrap (i+(1:Int)))))&&(decide ((IntKind.i64.wrap (i+(1:Int))) < (Int.ofNat (List.length (List.replicate (List.length t) false)))))) (.jmp (.l6 (Zdf (List.getD t (Int.toNat i) (dflt Za))).2 (List.set (List.replicate (List.length t) false) (Int.toNat (IntKind.i64.wrap (i+(1:Int)))) true))) (.no)) (.jmp (.l6 (Zdf (List.getD t (Int.toNat i) (dflt Za))).2 (List.replicate (List.length t) false)))) (.jmp (.l6 (Zdf (List.getD t (Int.toNat i) (dflt Za))).2 (List.replicate (List.length t) false)))) (.no)) (.no)))) (.no)
def ZpU:List Bool→AV:=fun (r:List Bool)=>.rw 4 .bool r
def Zgf (t:List (El Za)) (i:Int):Zlk→Nat×St |.l6 jumps is=>(6,⟨mkTm 60 [(1,.d (.int .i64) i),(2,.pt 3 0 0),(5,.own 6 0 none),(7,.d .bool jumps)],[(3,0,.box 33 [.d (.sl Za) t] none),(6,0,.row 4 .bool is false)]⟩)
theorem ZHS (t:List (El Za)) (i:Int) (L:Lt):entryA Go.Proofs.Tryz.prog (clOf Zt7) Zrc Go.Proofs.Tryz.f45 Zoc L (toForms ZgU (t,i,()))=(ZqI t i).run (fun v=>some (ZpU v,tps (toForms ZgU (t,i,())))) fun j=>L (Zgf t i j).1 (Zgf t i j).2:=by kernel_rfl
theorem ZGk (t:List (El Za)) (i:Int):∀(L:Lt) (j:Zlk),procOf (procsF Go.Proofs.Tryz.prog (clOf Zt7) Zrc Go.Proofs.Tryz.f45 Zoc (toForms ZgU (t,i,()))) (Zgf t i j).1 L (Zgf t i j).2=(Zpk t i j).run (fun v=>some (ZpU v,tps (toForms ZgU (t,i,())))) fun j=>L (Zgf t i j).1 (Zgf t i j).2 | L,.l6 jumps is=>by kernel_rfl
end
end Go.Ev
end

section
open Go
namespace Go.Ev
theorem ZJZ {i:El Za} (h:smallText i.2.2.2.2.2.1=true):Zjd i=true:=by
 have h1:ZC i=true:=h
 unfold Zjd
 simp only[h1,cond_true,Bool.cond_self]
theorem ZLQ {i:El Za} (h:smallText i.2.2.2.2.2.1=true):Zdf i=Zaw i:=by
 have h0:ZN i=true:=h
 have h1:ZC i=true:=h
 unfold Zdf Zaw ZB ZaI
 simp only[h0,h1,cond_true]
 cases h10:((show Int from i.1)==10) with
 | true=>simp only[cond_true,bne,h10,Bool.not_true,cond_false]
 | false=>simp only[cond_true,bne,h10,Bool.not_false,cond_false]
end Go.Ev
end

section
open Go
namespace Go.Ev
def wordAt (m:List (Int×Int)) (k:Int):Int:=Option.getD (mget (kt:=(.int .i64)) k m) (0:Int)
def bitE (w:Int) (i:Int):Bool:=(bitAnd IntKind.u64 (Int.fdiv w (2 ^ (min (Int.toNat (IntKind.u64.wrap i)) (IntKind.u64).bits))) (1:Int))==(1:Int)
def numE (k i:Int):Int:=IntKind.i64.wrap ((IntKind.i64.wrap (k*(64:Int)))+i)
def wordList (m:List (Int×Int)) (k:Int) (i n:Nat):List Int:=((List.range' i n).filter fun i=>bitE (wordAt m k) (i:Nat)).map fun i=>numE k (i:Nat)
def listAt (m:List (Int×Int)) (places:List Int):List Int:=places.flatMap fun k=>wordList m k 0 64
def listS (s:Int×List (Int×Int)):List Int:=listAt s.2 ((s.2.map Prod.fst).mergeSort fun x y=>decide (x≤y))
theorem Zua {i:Nat} (h:i < 64):IntKind.u64.wrap (i:Int)=(i:Int):=by
 unfold IntKind.wrap
 simp[IntKind.signed,IntKind.bits]
 omega
theorem ZzH (m:List (Int×Int)) (k:Int) (i n:Nat):(wordList m k i n).length≤n:=by
 unfold wordList
 rw[List.length_map]
 exact Nat.le_trans (List.length_filter_le _ _) (by simp)
end Go.Ev
namespace Go.Ev
def placeOf (i:Int):Int:=IntKind.i64.wrap (Int.tdiv i (64:Int))
def hasS (s:Int×List (Int×Int)) (i:Int):Bool:=decide (i≥(0:Int))&&(decide (i < s.1)&&bitE (wordAt s.2 (placeOf i)) (Int.tmod i (64:Int)))
def withBit (w i:Int):Int:=bitOr IntKind.u64 w (IntKind.u64.wrap ((1:Int)*(2 ^ (min (Int.toNat (IntKind.u64.wrap i)) (IntKind.u64).bits))))
def putS (s:Int×List (Int×Int)) (i:Int):Bool×Int×List (Int×Int):=
 if i < 0∨s.1≤i∨hasS s i=true then (false,s) else (true,s.1,mput (kt:=(.int .i64)) (placeOf i) (withBit (wordAt s.2 (placeOf i)) (Int.tmod i (64:Int))) s.2)
theorem Zxy (n:Int):decide (IntKind.u64.wrap n < (0:Int))=false:=by
 apply decide_eq_false
 unfold IntKind.wrap
 simp only[IntKind.signed,IntKind.bits,Bool.false_and,Bool.false_eq_true,if_false]
 have:(0:Int)≤n % 18446744073709551616:=Int.emod_nonneg _ (by decide)
 simp at*
 omega
end Go.Ev
end

section
open Go
namespace Go.Ev
theorem Zyh {n:Nat} (h:n < 2 ^ 64):IntKind.u64.wrap (n:Int)=(n:Int):=by
 unfold IntKind.wrap
 simp only[IntKind.signed,IntKind.bits,Bool.false_and,Bool.false_eq_true,if_false]
 exact Int.emod_eq_of_lt (by omega) (by exact_mod_cast h)
theorem ofIntU {n:Nat} :BitVec.ofInt 64 (n:Int)=BitVec.ofNat 64 n:=BitVec.ofInt_natCast 64 n
theorem ZL7 {a b:Nat} (ha:a < 2 ^ 64) (hb:b < 2 ^ 64):bitAnd IntKind.u64 (a:Int) (b:Int)=((a &&& b:Nat):Int):=by
 unfold bitAnd
 show IntKind.u64.wrap (((BitVec.ofInt 64 (a:Int) &&& BitVec.ofInt 64 (b:Int)).toNat:Nat):Int)=_
 rw[ofIntU,ofIntU,BitVec.toNat_and,BitVec.toNat_ofNat,BitVec.toNat_ofNat,Nat.mod_eq_of_lt ha,Nat.mod_eq_of_lt hb]
 exact Zyh (Nat.lt_of_le_of_lt Nat.and_le_left ha)
theorem ZNN {a b:Nat} (ha:a < 2 ^ 64) (hb:b < 2 ^ 64):bitOr IntKind.u64 (a:Int) (b:Int)=((a ||| b:Nat):Int):=by
 unfold bitOr
 show IntKind.u64.wrap (((BitVec.ofInt 64 (a:Int) ||| BitVec.ofInt 64 (b:Int)).toNat:Nat):Int)=_
 rw[ofIntU,ofIntU,BitVec.toNat_or,BitVec.toNat_ofNat,BitVec.toNat_ofNat,Nat.mod_eq_of_lt ha,Nat.mod_eq_of_lt hb]
 exact Zyh (Nat.or_lt_two_pow ha hb)
theorem ZAo (j:Nat):(2:Int) ^ j=((2 ^ j:Nat):Int):=by simp
theorem ZMd {w j:Nat} (hw:w < 2 ^ 64) (hj:j < 64):bitE (w:Int) (j:Int)=w.testBit j:=by
 unfold bitE
 rw[Zua hj,Int.toNat_natCast,show min j (IntKind.u64).bits=j from Nat.min_eq_left (by show j≤64;omega),ZAo,Int.fdiv_eq_ediv_of_nonneg _ (Int.natCast_nonneg _),←Int.natCast_ediv]
 rw[show (1:Int)=((1:Nat):Int) from rfl,ZL7 (Nat.lt_of_le_of_lt (Nat.div_le_self _ _) hw) (by decide),Nat.and_one_is_mod,Nat.testBit_eq_decide_div_mod_eq]
 by_cases h:w / 2 ^ j % 2=1
 ·rw[h];simp
 ·have:w / 2 ^ j % 2=0:=by omega
  rw[this];simp
theorem ZKU {w j:Nat} (hw:w < 2 ^ 64) (hj:j < 64):withBit (w:Int) (j:Int)=((w ||| 2 ^ j:Nat):Int):=by
 unfold withBit
 have hp:2 ^ j < 2 ^ 64:=Nat.pow_lt_pow_right (by decide) hj
 rw[Zua hj,Int.toNat_natCast,show min j (IntKind.u64).bits=j from Nat.min_eq_left (by show j≤64;omega),ZAo,Int.one_mul,Zyh hp,ZNN hw hp]
theorem Zs1 (k v:Int):∀m:List (Int×Int),mget (kt:=.int .i64) k (mput (kt:=.int .i64) k v m)=some v
 | []=>by simp[mput,mget,keyEq]
 | (x,u) :: r=>by
  by_cases h:k=x
  ·subst h;simp[mput,mget,keyEq]
  ·have hb:keyEq (.int .i64) k x=false:=by show (k==x)=false;simpa using h
   simp only[mput,hb,cond_false,mget]
   exact Zs1 k v r
theorem Zrl {k k':Int} (v:Int) (h:k'≠k):∀m:List (Int×Int),mget (kt:=.int .i64) k' (mput (kt:=.int .i64) k v m)=mget (kt:=.int .i64) k' m
 | []=>by
  have hb:keyEq (.int .i64) k' k=false:=by show (k'==k)=false;simpa using h
  simp[mput,mget,hb]
 | (x,u) :: r=>by
  by_cases hx:k=x
  ·subst hx
   have hb:keyEq (.int .i64) k' k=false:=by show (k'==k)=false;simpa using h
   have hb2:keyEq (.int .i64) k k=true:=by show (k==k)=true;simp
   simp only[mput,hb2,cond_true,mget,hb,cond_false]
  ·have hb:keyEq (.int .i64) k x=false:=by show (k==x)=false;simpa using hx
   simp only[mput,hb,cond_false,mget,Zrl v h r]
theorem Zr6 {k v:Int} :∀ {m:List (Int×Int)},mget (kt:=.int .i64) k m=some v→(k,v)∈m
 | [],h=>by cases h
 | (x,u) :: r,h=>by
  by_cases hx:k=x
  ·subst hx
   have hb2:keyEq (.int .i64) k k=true:=by show (k==k)=true;simp
   simp only[mget,hb2,cond_true,Option.some.injEq] at h
   subst h
   simp
  ·have hb:keyEq (.int .i64) k x=false:=by show (k==x)=false;simpa using hx
   simp only[mget,hb,cond_false] at h
   exact List.mem_cons_of_mem _ (Zr6 h)
theorem ZKj {k v:Int} {p:Int×Int} :∀ {m:List (Int×Int)},p∈mput (kt:=.int .i64) k v m→p=(k,v)∨p∈m
 | [],h=>by simp[mput] at h;exact .inl h
 | (x,u) :: r,h=>by
  by_cases hx:k=x
  ·subst hx
   have hb2:keyEq (.int .i64) k k=true:=by show (k==k)=true;simp
   simp only[mput,hb2,cond_true] at h
   rcases List.mem_cons.1 h with h | h
   ·exact .inl h
   ·exact .inr (List.mem_cons_of_mem _ h)
  ·have hb:keyEq (.int .i64) k x=false:=by show (k==x)=false;simpa using hx
   simp only[mput,hb,cond_false] at h
   rcases List.mem_cons.1 h with h | h
   ·exact .inr (by rw[h];simp)
   ·exact (ZKj h).imp id (List.mem_cons_of_mem _)
theorem Zu3 {k v:Int} :∀ {m:List (Int×Int)},(mput (kt:=.int .i64) k v m).map Prod.fst=if k∈m.map Prod.fst then m.map Prod.fst else m.map Prod.fst++[k]
 | []=>by simp[mput]
 | (x,u) :: r=>by
  by_cases hx:k=x
  ·subst hx
   have hb2:keyEq (.int .i64) k k=true:=by show (k==k)=true;simp
   simp only[mput,hb2,cond_true]
   simp
  ·have hb:keyEq (.int .i64) k x=false:=by show (k==x)=false;simpa using hx
   simp only[mput,hb,cond_false,List.map_cons,List.mem_cons,hx,false_or]
   rw[@Zu3 k v r]
   by_cases h:k∈r.map Prod.fst
   ·rw[if_pos h,if_pos h]
   ·rw[if_neg h,if_neg h];rfl
theorem ZBM {k v:Int} {m:List (Int×Int)} (h:(m.map Prod.fst).Nodup):((mput (kt:=.int .i64) k v m).map Prod.fst).Nodup:=by
 rw[Zu3]
 split
 ·exact h
 ·rename_i hk
  rw[List.nodup_append]
  exact ⟨h,by simp,fun a ha b hb e=>by simp at hb;subst hb;subst e;exact hk ha⟩
theorem ZBX:∀ {l:List Int} {a b:Int},l.Pairwise (· < ·)→(∀x∈l,a≤x∧x < b)→a≤b→(l.length:Int)≤b - a
 | [],a,b,_,_,h=>by simp;omega
 | y :: l,a,b,hp,hb,h=>by
  rw[List.pairwise_cons] at hp
  have hy:=hb y (by simp)
  have:=ZBX (l:=l) (a:=y+1) (b:=b) hp.2 (fun x hx=>⟨hp.1 x hx,(hb x (List.mem_cons_of_mem _ hx)).2⟩) (by omega)
  simp
  omega
structure SetOK (s:Int×List (Int×Int)) (n:Nat) (M:Nat→Bool):Prop where
 size:s.1=n
 nodup:(s.2.map Prod.fst).Nodup
 words:∀p∈s.2,∃k w:Nat,p=((k:Int),(w:Int))∧k*64 < n∧w < 2 ^ 64
 bits:∀k j:Nat,j < 64→(wordAt s.2 (k:Int)).toNat.testBit j=M (k*64+j)
 lt:∀i,M i=true→i < n
theorem SetOK.new (n:Nat):SetOK ((n:Int),[]) n fun _=>false:=⟨rfl,List.nodup_nil,fun p hp=>by simp at hp,fun k j _=>by simp[wordAt,mget],fun i h=>by cases h⟩
variable {s:Int×List (Int×Int)} {n:Nat} {M:Nat→Bool}
theorem SetOK.word (h:SetOK s n M) (k:Nat):∃w:Nat,wordAt s.2 (k:Int)=(w:Int)∧w < 2 ^ 64:=by
 unfold wordAt
 cases hg:mget (kt:=.int .i64) (k:Int) s.2 with
 | none=>exact ⟨0,rfl,by decide⟩
 | some v=>
  obtain ⟨k',w,e,_,hw⟩:=h.words _ (Zr6 hg)
  simp only[Prod.mk.injEq] at e
  exact ⟨w,e.2,hw⟩
theorem Zy8 {i:Nat} (hi:i < 4611686018427387904):placeOf (i:Int)=((i / 64:Nat):Int):=by
 unfold placeOf
 rw[show Int.tdiv (i:Int) 64=((i / 64:Nat):Int) from rfl,wrap_i64 (by omega) (by omega)]
theorem SetOK.has (h:SetOK s n M) (hn:n < 4611686018427387904) (i:Int):hasS s i=(decide (0≤i)&&M i.toNat):=by
 unfold hasS
 rw[h.size]
 by_cases h0:0≤i
 ·obtain ⟨j,rfl⟩:=Int.eq_ofNat_of_zero_le h0
  by_cases h1:j < n
  ·rw[decide_eq_true (show (j:Int)≥0 from h0),decide_eq_true (show (j:Int) < (n:Int) by omega),Bool.true_and,Bool.true_and,Bool.true_and,Zy8 (by omega)]
   obtain ⟨w,hw,hlt⟩:=h.word (j / 64)
   have hb:=h.bits (j / 64) (j % 64) (Nat.mod_lt _ (by decide))
   rw[hw,show Int.tmod (j:Int) 64=((j % 64:Nat):Int) from rfl,ZMd hlt (Nat.mod_lt _ (by decide))]
   rw[hw,Int.toNat_natCast] at hb
   rw[hb,Int.toNat_natCast,Nat.div_add_mod' j 64]
  ·rw[decide_eq_false (show ¬(j:Int) < (n:Int) by omega),Bool.false_and,Bool.and_false]
   have:M (j:Int).toNat=false:=by
    rw[Int.toNat_natCast]
    cases hm:M j with
    | true=>exact absurd (h.lt j hm) h1
    | false=>rfl
   rw[this,Bool.and_false]
 ·rw[decide_eq_false (show ¬i≥0 from h0),Bool.false_and,Bool.false_and]
theorem SetOK.put (h:SetOK s n M) (hn:n < 4611686018427387904) {i:Nat} (hi:i < n) (hM:M i=false):
  (putS s i).1=true∧SetOK (putS s i).2 n fun j=>M j || (j==i):=by
 have hno:¬((i:Int) < 0∨s.1≤(i:Int)∨hasS s (i:Int)=true):=by
  rw[h.has hn,h.size,Int.toNat_natCast,hM]
  simp
  omega
 unfold putS
 rw[if_neg hno,Zy8 (by omega),show Int.tmod (i:Int) 64=((i % 64:Nat):Int) from rfl]
 refine ⟨rfl,?_⟩
 obtain ⟨w,hw,hlt⟩:=h.word (i / 64)
 have hj:i % 64 < 64:=Nat.mod_lt _ (by decide)
 have hp:2 ^ (i % 64) < 2 ^ 64:=Nat.pow_lt_pow_right (by decide) hj
 rw[hw,ZKU hlt hj]
 have hw2:w ||| 2 ^ (i % 64) < 2 ^ 64:=Nat.or_lt_two_pow hlt hp
 refine ⟨h.size,ZBM h.nodup,fun p hp=>?_,fun k j hj2=>?_,fun k hk=>?_⟩
 ·rcases ZKj hp with rfl | hp
  ·exact ⟨i / 64,_,rfl,by omega,hw2⟩
  ·exact h.words p hp
 ·unfold wordAt
  by_cases hk:k=i / 64
  ·subst hk
   simp only
   rw[Zs1,Option.getD_some,Int.toNat_natCast,Nat.testBit_or,Nat.testBit_two_pow]
   have hb:=h.bits (i / 64) j hj2
   rw[hw,Int.toNat_natCast] at hb
   rw[hb]
   congr 1
   rw[Bool.eq_iff_iff]
   simp
   omega
  ·simp only
   rw[Zrl _ (by omega)]
   have hb:=h.bits k j hj2
   unfold wordAt at hb
   rw[hb]
   have:(k*64+j==i)=false:=by simp;omega
   rw[this,Bool.or_false]
 ·simp only[Bool.or_eq_true,beq_iff_eq] at hk
  rcases hk with hk | hk
  ·exact h.lt k hk
  ·omega
theorem SetOK.put_no (h:SetOK s n M) (hn:n < 4611686018427387904) {i:Int} (hi:¬(0≤i∧i < n∧M i.toNat=false)):putS s i=(false,s):=by
 unfold putS
 rw[if_pos]
 rw[h.has hn,h.size]
 by_cases h0:i < 0
 ·exact .inl h0
 ·by_cases h1:(n:Int)≤i
  ·exact .inr (.inl h1)
  ·refine .inr (.inr ?_)
   have:¬M i.toNat=false:=fun hf=>hi ⟨by omega,by omega,hf⟩
   rw[Bool.not_eq_false] at this
   rw[this,decide_eq_true (by omega)];rfl
theorem ZnQ:∀ {l m:List Int},l.Pairwise (· < ·)→m.Pairwise (· < ·)→(∀x,x∈l↔x∈m)→l=m
 | [],[],_,_,_=>rfl
 | [],b :: m,_,_,h=>by have:=(h b).2 (by simp);simp at this
 | a :: l,[],_,_,h=>by have:=(h a).1 (by simp);simp at this
 | a :: l,b :: m,hl,hm,h=>by
  rw[List.pairwise_cons] at hl hm
  have hab:a=b:=by
   have h1:=(h a).1 (by simp)
   have h2:=(h b).2 (by simp)
   rcases List.mem_cons.1 h1 with h1 | h1
   ·exact h1
   ·rcases List.mem_cons.1 h2 with h2 | h2
    ·exact h2.symm
    ·have:=hm.1 a h1;have:=hl.1 b h2;omega
  subst hab
  rw[ZnQ hl.2 hm.2 fun x=>⟨fun hx=>?_,fun hx=>?_⟩]
  ·have:=hl.1 x hx
   rcases List.mem_cons.1 ((h x).1 (List.mem_cons_of_mem _ hx)) with e | e
   ·omega
   ·exact e
  ·have:=hm.1 x hx
   rcases List.mem_cons.1 ((h x).2 (List.mem_cons_of_mem _ hx)) with e | e
   ·omega
   ·exact e
def listOf (n:Nat) (M:Nat→Bool):List Int:=((List.range n).filter M).map Int.ofNat
theorem Zcv {x:Int} :x∈listOf n M↔∃i:Nat,i < n∧M i=true∧x=(i:Int):=by
 unfold listOf
 simp only[List.mem_map,List.mem_filter,List.mem_range]
 constructor
 ·rintro ⟨i,⟨h1,h2⟩,rfl⟩;exact ⟨i,h1,h2,rfl⟩
 ·rintro ⟨i,h1,h2,rfl⟩;exact ⟨i,⟨h1,h2⟩,rfl⟩
theorem Zoa:(listOf n M).Pairwise (· < ·):=by
 unfold listOf
 rw[List.pairwise_map]
 refine (List.Pairwise.filter M List.pairwise_lt_range).imp fun {a b} h=>?_
 show (a:Int) < (b:Int)
 omega
theorem Zq6 {M':Nat→Bool} (h:∀i,i < n→M i=M' i):listOf n M=listOf n M':=by
 unfold listOf
 congr 1
 exact List.filter_congr fun i hi=>h i (List.mem_range.1 hi)
theorem SetOK.list (h:SetOK s n M) (hn:n < 4611686018427387904):listS s=listOf n M:=by
 have hkey:∀k∈s.2.map Prod.fst,∃k':Nat,k=(k':Int)∧k'*64 < n:=fun k hk=>by
  obtain ⟨p,hp,rfl⟩:=List.mem_map.1 hk
  obtain ⟨k',w,e,h1,_⟩:=h.words p hp
  exact ⟨k',by rw[e],h1⟩
 have hwl:∀k:Nat,k*64 < n→∀x,x∈wordList s.2 (k:Int) 0 64↔∃j:Nat,j < 64∧M (k*64+j)=true∧x=((k*64+j:Nat):Int):=fun k hk x=>by
  obtain ⟨w,hw,hlt⟩:=h.word k
  unfold wordList
  rw[hw]
  simp only[List.mem_map,List.mem_filter,List.mem_range'_1]
  have hnum:∀j:Nat,j < 64→numE (k:Int) (j:Int)=((k*64+j:Nat):Int):=fun j hj=>by
   unfold numE
   rw[wrap_i64 (n:=(k:Int)*64) (by omega) (by omega),wrap_i64 (by omega) (by omega)]
   omega
  have hbit:∀j:Nat,j < 64→bitE (w:Int) (j:Int)=M (k*64+j):=fun j hj=>by
   rw[ZMd hlt hj]
   have:=h.bits k j hj
   rwa[hw,Int.toNat_natCast] at this
  constructor
  ·rintro ⟨j,⟨hj,hb⟩,rfl⟩
   exact ⟨j,by omega,by rw[←hbit j (by omega)];exact hb,hnum j (by omega)⟩
  ·rintro ⟨j,hj,hb,rfl⟩
   exact ⟨j,⟨by omega,by rw[hbit j hj];exact hb⟩,hnum j hj⟩
 have hmem:∀ {k:Int},k∈(s.2.map Prod.fst).mergeSort (fun x y=>decide (x≤y))↔k∈s.2.map Prod.fst:=List.mem_mergeSort
 have tr:∀a b c:Int,decide (a≤b)=true→decide (b≤c)=true→decide (a≤c)=true:=fun a b c h1 h2=>by simp at*;omega
 have to:∀a b:Int,(decide (a≤b) || decide (b≤a))=true:=fun a b=>by simp;omega
 have hs1:=List.pairwise_mergeSort tr to (s.2.map Prod.fst)
 have hs2:((s.2.map Prod.fst).mergeSort (fun x y=>decide (x≤y))).Nodup:=(List.mergeSort_perm _ _).nodup_iff.2 h.nodup
 have hst:((s.2.map Prod.fst).mergeSort (fun x y=>decide (x≤y))).Pairwise (· < ·):=(hs1.and hs2).imp fun {a b} h=>by
  have h1:=h.1;have h2:=h.2;simp at h1;omega
 refine ZnQ ?_ Zoa fun x=>?_
 ·unfold listS listAt
  rw[List.pairwise_flatMap]
  refine ⟨fun k hk=>?_,?_⟩
  ·obtain ⟨k',rfl,hk'⟩:=hkey k (hmem.1 hk)
   unfold wordList
   rw[List.pairwise_map]
   have hp:((List.range' 0 64).filter fun i=>bitE (wordAt s.2 (k':Int)) (i:Nat)).Pairwise (· < ·):=List.Pairwise.filter _ (List.pairwise_lt_range' (step:=1) (s:=0) (n:=64) (by omega))
   refine (List.Pairwise.and_mem.1 hp).imp fun {a b} h=>?_
   obtain ⟨ha,hb,hab⟩:=h
   have ha':=(List.mem_range'_1.1 (List.mem_filter.1 ha).1)
   have hb':=(List.mem_range'_1.1 (List.mem_filter.1 hb).1)
   unfold numE
   rw[wrap_i64 (n:=(k':Int)*64) (by omega) (by omega),wrap_i64 (by omega) (by omega),wrap_i64 (by omega) (by omega)]
   omega
  ·refine (List.Pairwise.and_mem.1 hst).imp fun {a b} hab=>?_
   obtain ⟨ha,hb,hlt⟩:=hab
   obtain ⟨a',rfl,ha'⟩:=hkey a (hmem.1 ha)
   obtain ⟨b',rfl,hb'⟩:=hkey b (hmem.1 hb)
   intro x hx y hy
   obtain ⟨j,hj,_,rfl⟩:=(hwl a' ha' x).1 hx
   obtain ⟨j',hj',_,rfl⟩:=(hwl b' hb' y).1 hy
   omega
 ·unfold listS listAt
  rw[Zcv,List.mem_flatMap]
  constructor
  ·rintro ⟨k,hk,hx⟩
   obtain ⟨k',rfl,hk'⟩:=hkey k (hmem.1 hk)
   obtain ⟨j,hj,hM,rfl⟩:=(hwl k' hk' x).1 hx
   exact ⟨_,h.lt _ hM,hM,rfl⟩
  ·rintro ⟨i,hi,hM,rfl⟩
   have hb:=h.bits (i / 64) (i % 64) (Nat.mod_lt _ (by decide))
   rw[Nat.div_add_mod' i 64,hM] at hb
   refine ⟨((i / 64:Nat):Int),hmem.2 ?_,(hwl (i / 64) (by omega) _).2 ⟨i % 64,Nat.mod_lt _ (by decide),by rw[Nat.div_add_mod' i 64];exact hM,by rw[Nat.div_add_mod' i 64]⟩⟩
   unfold wordAt at hb
   cases hg:mget (kt:=.int .i64) ((i / 64:Nat):Int) s.2 with
   | none=>rw[hg] at hb;simp at hb
   | some v=>exact List.mem_map.2 ⟨_,Zr6 hg,rfl⟩
theorem SetOK.few (h:SetOK s n M):s.2.length≤(n+63) / 64:=by
 have tr:∀a b c:Int,decide (a≤b)=true→decide (b≤c)=true→decide (a≤c)=true:=fun a b c h1 h2=>by simp at*;omega
 have to:∀a b:Int,(decide (a≤b) || decide (b≤a))=true:=fun a b=>by simp;omega
 have hs1:=List.pairwise_mergeSort tr to (s.2.map Prod.fst)
 have hs2:((s.2.map Prod.fst).mergeSort (fun x y=>decide (x≤y))).Nodup:=(List.mergeSort_perm _ _).nodup_iff.2 h.nodup
 have hst:((s.2.map Prod.fst).mergeSort (fun x y=>decide (x≤y))).Pairwise (· < ·):=(hs1.and hs2).imp fun {a b} h=>by
  have h1:=h.1;have h2:=h.2;simp at h1;omega
 have:=ZBX (a:=0) (b:=(((n+63) / 64:Nat):Int)) hst (fun x hx=>by
  obtain ⟨p,hp,rfl⟩:=List.mem_map.1 (List.mem_mergeSort.1 hx)
  obtain ⟨k',w,e,h1,_⟩:=h.words p hp
  rw[e]
  exact ⟨by simp,by simp;omega⟩) (by omega)
 simp at this
 omega
end Go.Ev
end

section
open Go
namespace Go.Ev
def flowOK (t:List (El Za)):Bool:=decide (t.length < 1099511627776)&&t.all fun i=>smallText i.2.2.2.2.2.1&&decide (i.2.2.2.2.2.2.length < 1099511627776)
theorem ZbL {t:List (El Za)} (h:flowOK t=true):t.length < 1099511627776:=by
 unfold flowOK at h;rw[Bool.and_eq_true] at h;exact of_decide_eq_true h.1
theorem Zlm {t:List (El Za)} (h:flowOK t=true) {i:El Za} (hi:i∈t):smallText i.2.2.2.2.2.1=true:=by
 unfold flowOK at h
 rw[Bool.and_eq_true] at h
 have:=List.all_eq_true.1 h.2 i hi
 rw[Bool.and_eq_true] at this
 exact this.1
theorem ZzA {t:List (El Za)} (h:flowOK t=true):(decide (t.length < 1099511627776)&&t.all fun i=>decide (i.2.2.2.2.2.2.length < 1099511627776))=true:=by
 unfold flowOK at h
 rw[Bool.and_eq_true] at h ⊢
 refine ⟨h.1,List.all_eq_true.2 fun i hi=>?_⟩
 have:=List.all_eq_true.1 h.2 i hi
 rw[Bool.and_eq_true] at this
 exact this.2
theorem ZKt {label:ByteArray} :∀ {t:List (El Za)} {k:Nat},findI label t k < ((k+t.length:Nat):Int)∨findI label t k= -1
 | [],k=>.inr rfl
 | x :: r,k=>by
  unfold findI
  split
  ·left;simp;omega
  ·rcases @ZKt label r (k+1) with h | h
   ·left;simp only[List.length_cons];omega
   ·exact .inr h
theorem ZKf {label:ByteArray} :∀ {t:List (El Za)} {k:Nat},findI label t k= -1∨(k:Int)≤findI label t k
 | [],k=>.inl rfl
 | x :: r,k=>by
  unfold findI
  split
  ·right;omega
  ·rcases @ZKf label r (k+1) with h | h
   ·exact .inl h
   ·right;omega
def onOf (t:List (El Za)) (i:Nat):Bool:=(Zaw (t.getD i (dflt Za))).1
def toOf (t:List (El Za)) (i:Nat):Int:=if (Zaw (t.getD i (dflt Za))).2 then findI (t.getD i (dflt Za)).2.2.2.2.2.1 t 0 else -1
theorem ZJg {t:List (El Za)} {i:Nat} : -1≤toOf t i∧(toOf t i < (t.length:Int)):=by
 unfold toOf
 split
 ·have h1:= @ZKt (t.getD i (dflt Za)).2.2.2.2.2.1 t 0
  have h2:= @ZKf (t.getD i (dflt Za)).2.2.2.2.2.1 t 0
  rw[Nat.zero_add] at h1
  omega
 ·omega
def nextB (t:List (El Za)) (i:Int) (j:Nat):Bool:=
 decide (0≤i∧i < (t.length:Int)∧j < t.length)&&((onOf t i.toNat&&decide ((j:Int)=i+1)) || decide (toOf t i.toNat=(j:Int)))
theorem Zel {t:List (El Za)} {i:Int} {j:Nat} (h:nextB t i j=true):j < t.length:=by
 unfold nextB at h
 rw[Bool.and_eq_true] at h
 exact (of_decide_eq_true h.1).2.2
def nextL (n:Nat) (on:Bool) (to i:Int):List Int:=
 (if 0≤to∧to≤i then [to] else [])++((if on=true∧i+1 < (n:Int) then [i+1] else [])++(if to > i∧¬(on=true∧i+1 < (n:Int)∧to=i+1) then [to] else []))
theorem ZH4 {n:Nat} {on:Bool} {to i:Int} :(nextL n on to i).Pairwise (· < ·):=by
 unfold nextL
 by_cases h1:0≤to∧to≤i
 ·rw[if_pos h1,if_neg (c:=to > i∧_) (fun h=>by omega)]
  by_cases h2:on=true∧i+1 < (n:Int)
  ·rw[if_pos h2];simp;omega
  ·rw[if_neg h2];simp
 ·rw[if_neg h1]
  by_cases h2:on=true∧i+1 < (n:Int)
  ·rw[if_pos h2]
   by_cases h3:to > i∧¬(on=true∧i+1 < (n:Int)∧to=i+1)
   ·rw[if_pos h3]
    have:to≠i+1:=fun e=>h3.2 ⟨h2.1,h2.2,e⟩
    simp;omega
   ·rw[if_neg h3];simp
  ·rw[if_neg h2]
   by_cases h3:to > i∧¬(on=true∧i+1 < (n:Int)∧to=i+1)
   ·rw[if_pos h3];simp
   ·rw[if_neg h3];simp
theorem ZKg {t:List (El Za)} {i:Nat} (hi:i < t.length):nextL t.length (onOf t i) (toOf t i) (i:Int)=listOf t.length (nextB t (i:Int)):=by
 refine ZnQ ZH4 Zoa fun x=>?_
 rw[Zcv]
 have hb:∀j:Nat,nextB t (i:Int) j=true↔j < t.length∧((onOf t i=true∧(j:Int)=(i:Int)+1)∨toOf t i=(j:Int)):=fun j=>by
  unfold nextB
  rw[Int.toNat_natCast]
  simp only[Bool.and_eq_true,Bool.or_eq_true,decide_eq_true_eq]
  constructor
  ·rintro ⟨⟨_,_,h⟩,h2⟩;exact ⟨h,h2⟩
  ·rintro ⟨h,h2⟩;exact ⟨⟨by omega,by omega,h⟩,h2⟩
 have ht:= @ZJg t i
 unfold nextL
 constructor
 ·intro h
  simp only[List.mem_append] at h
  rcases h with h | h | h
  ·split at h
   ·rename_i hc
    simp at h
    subst h
    exact ⟨(toOf t i).toNat,by omega,(hb _).2 ⟨by omega,.inr (by omega)⟩,by omega⟩
   ·simp at h
  ·split at h
   ·rename_i hc
    simp at h
    subst h
    exact ⟨i+1,by omega,(hb _).2 ⟨by omega,.inl ⟨hc.1,by omega⟩⟩,by omega⟩
   ·simp at h
  ·split at h
   ·rename_i hc
    simp at h
    subst h
    exact ⟨(toOf t i).toNat,by omega,(hb _).2 ⟨by omega,.inr (by omega)⟩,by omega⟩
   ·simp at h
 ·rintro ⟨j,hj,hM,rfl⟩
  obtain ⟨_,h⟩:=(hb j).1 hM
  simp only[List.mem_append]
  rcases h with ⟨h1,h2⟩ | h
  ·right;left
   rw[if_pos ⟨h1,by omega⟩];simp;omega
  ·by_cases hle:toOf t i≤(i:Int)
   ·left;rw[if_pos ⟨by omega,hle⟩];simp;omega
   ·right
    by_cases hc:onOf t i=true∧(i:Int)+1 < (t.length:Int)∧toOf t i=(i:Int)+1
    ·left;rw[if_pos ⟨hc.1,hc.2.1⟩];simp;omega
    ·right;rw[if_pos ⟨by omega,hc⟩];simp;omega
end Go.Ev
end

section
open Go
namespace Go.Ev
def rowOf (n:Nat) (M:Nat→Bool):List Bool:=(List.range n).map M
theorem ZJ {n:Nat} {M:Nat→Bool} :(rowOf n M).length=n:=by simp[rowOf]
theorem ZnN {n:Nat} {M:Nat→Bool} {i:Nat} (h:i < n):(rowOf n M)[i]? =some (M i):=by simp[rowOf,h]
theorem ZqW {n:Nat} {M:Nat→Bool} {i:Nat} :(rowOf n M).set i true=rowOf n fun j=>M j || (j==i):=by
 apply List.ext_getElem?
 intro j
 rw[List.getElem?_set,ZJ]
 by_cases hj:j < n
 ·rw[ZnN hj,ZnN hj]
  by_cases hi:i=j
  ·subst hi;rw[if_pos rfl,if_pos hj];simp
  ·rw[if_neg hi]
   have:(j==i)=false:=by simp;omega
   rw[this,Bool.or_false]
 ·rw[List.getElem?_eq_none (by rw[ZJ];omega),List.getElem?_eq_none (by rw[ZJ];omega)]
  by_cases hi:i=j
  ·rw[if_pos hi,if_neg (by omega)]
  ·rw[if_neg hi]
theorem Z3 {n:Nat} {M M':Nat→Bool} (h:∀i,i < n→M i=M' i):rowOf n M=rowOf n M':=List.map_congr_left fun i hi=>h i (List.mem_range.1 hi)
theorem ZnA {n:Nat} :List.replicate n false=rowOf n fun _=>false:=by
 apply List.ext_getElem?
 intro j
 by_cases hj:j < n
 ·rw[ZnN hj];simp[hj]
 ·rw[List.getElem?_eq_none (by simp;omega),List.getElem?_eq_none (by rw[ZJ];omega)]
def Za7 (t:List (El Za)) (i:Int):List Bool:=rowOf t.length (nextB t i)
def ZcO (t:List (El Za)) (i:Int):Bool:=flowOK t
theorem ZIO (t:List (El Za)) (i:Int) (hk:ZcO t i=true):Goes (Zpk t i) (ZqI t i) (Za7 t i):=by
 have hlen:=ZbL hk
 have hout:∀i,¬(0≤i∧i < (t.length:Int))→List.replicate t.length false=rowOf t.length (nextB t i):=fun i h=>by
  rw[ZnA]
  refine Z3 fun j hj=>?_
  unfold nextB
  rw[decide_eq_false (fun hh=>h ⟨hh.1,hh.2.1⟩),Bool.false_and]
 unfold ZqI Za7
 rw[Ze,if_pos (by unfold limit;simp;omega),Ze]
 by_cases h0:i < 0
 ·rw[if_pos (decide_eq_true h0),←hout i (fun h=>by omega)];exact .leaf
 rw[if_neg (by simpa using h0),Ze]
 obtain ⟨j,rfl⟩:=Int.eq_ofNat_of_zero_le (show 0≤i by omega)
 by_cases h1:(t.length:Int)≤(j:Int)
 ·rw[if_pos (decide_eq_true (show (j:Int)≥Int.ofNat t.length from h1)),←hout _ (fun h=>by omega)];exact .leaf
 have hj:j < t.length:=by omega
 rw[if_neg (by simp;omega),Ze,if_pos (Zaq hj),Ze,Int.toNat_natCast]
 have hmem:t.getD j (dflt Za)∈t:=by rw[ZH hj];exact List.getElem_mem hj
 have hsm:=Zlm hk hmem
 rw[if_pos (ZJZ hsm),ZLQ hsm]
 have kf:Zes t (t.getD j (dflt Za)).2.2.2.2.2.1=true:=ZzA hk
 have vf:ZcH t (t.getD j (dflt Za)).2.2.2.2.2.1=findI (t.getD j (dflt Za)).2.2.2.2.2.1 t 0:=rfl
 have hw:IntKind.i64.wrap ((j:Int)+1)=((j+1:Nat):Int):=Zr (by omega)
 have hr:= @ZJg t j
 have l6:∀(M:Nat→Bool),Goes (Zpk t (j:Int)) (.jmp (.l6 (Zaw (t.getD j (dflt Za))).2 (rowOf t.length M))) (rowOf t.length fun k=>M k || decide (toOf t j=(k:Int))):=by
  intro M
  rw[Zi,Zpk,Ze]
  by_cases hjmp:(Zaw (t.getD j (dflt Za))).2=true
  ·have hto:toOf t j=findI (t.getD j (dflt Za)).2.2.2.2.2.1 t 0:=by unfold toOf;rw[if_pos hjmp]
   rw[hto] at hr
   rw[if_pos hjmp,Ze,if_pos (Zaq hj),Ze,Int.toNat_natCast,if_pos kf,Ze,vf,hto]
   generalize findI (t.getD j (dflt Za)).2.2.2.2.2.1 t 0=to at hr
   by_cases h2:to≥0
   ·obtain ⟨k,rfl⟩:=Int.eq_ofNat_of_zero_le h2
    rw[if_pos (decide_eq_true h2),Ze,if_pos (by rw[ZJ];exact Zaq (by omega)),Int.toNat_natCast,ZqW]
    rw[show (rowOf t.length fun l=>M l || decide ((k:Int)=(l:Int)))=rowOf t.length fun l=>M l || (l==k) from Z3 fun l _=>by
     congr 1
     rw[Bool.eq_iff_iff];simp;omega]
    exact .leaf
   ·rw[if_neg (by simpa using h2)]
    rw[show (rowOf t.length fun l=>M l || decide (to=(l:Int)))=rowOf t.length M from Z3 fun l _=>by
     rw[decide_eq_false (by omega),Bool.or_false]]
    exact .leaf
  ·have hto:toOf t j= -1:=by unfold toOf;rw[if_neg hjmp]
   rw[if_neg hjmp,hto]
   rw[show (rowOf t.length fun l=>M l || decide ((-1:Int)=(l:Int)))=rowOf t.length M from Z3 fun l _=>by
     rw[decide_eq_false (by omega),Bool.or_false]]
   exact .leaf
 have hB:∀k,k < t.length→nextB t (j:Int) k=((onOf t j&&decide ((k:Int)=(j:Int)+1)) || decide (toOf t j=(k:Int))):=fun k hk=>by
  unfold nextB
  rw[decide_eq_true (by omega),Bool.true_and,Int.toNat_natCast]
 rw[ZnA,Ze]
 by_cases hon:(Zaw (t.getD j (dflt Za))).1=true
 ·have hon':onOf t j=true:=hon
  rw[if_pos hon,Ze,hw]
  by_cases hin:j+1 < t.length
  ·rw[if_pos (ZS hin),Ze,ZJ,if_pos (Zaq hin),Int.toNat_natCast,ZqW]
   have:=l6 fun k=>false || (k==j+1)
   rw[show rowOf t.length (nextB t (j:Int))=rowOf t.length fun k=>(false || (k==j+1)) || decide (toOf t j=(k:Int)) from Z3 fun k hk=>by
    rw[hB k hk,hon',Bool.true_and,Bool.false_or]
    congr 1
    rw[Bool.eq_iff_iff];simp;omega]
   exact this
  ·rw[if_neg (by rw[Zy hin];decide)]
   have:=l6 fun _=>false
   rw[show rowOf t.length (nextB t (j:Int))=rowOf t.length fun k=>false || decide (toOf t j=(k:Int)) from Z3 fun k hk=>by
    rw[hB k hk,hon',Bool.true_and,decide_eq_false (show ¬(k:Int)=(j:Int)+1 by omega)]]
   exact this
 ·have hon':onOf t j=false:=Bool.eq_false_iff.2 hon
  rw[if_neg hon]
  have:=l6 fun _=>false
  rw[show rowOf t.length (nextB t (j:Int))=rowOf t.length fun k=>false || decide (toOf t j=(k:Int)) from Z3 fun k hk=>by
   rw[hB k hk,hon',Bool.false_and]]
  exact this
end Go.Ev
end

section
open Go Go.Ev
namespace Go.Ev
noncomputable section
noncomputable def ZtN:Run:=entG ZgU ZpU (fun a=>ZcO a.1 a.2.1) (fun a=>Za7 a.1 a.2.1)
theorem Zxv:EntOK Go.Proofs.Tryz.prog 45 ZtN:=ZM (tb:=Zrc) (c:=Zoc) ZIp (by kernel_rfl) (by kernel_rfl) (by kernel_rfl) (fun a=>by kernel_rfl) fun ⟨t,i,_⟩ hk=>Zm (c:=Zoc) (K:=fun v=>(ZpU v,tps (toForms ZgU (t,i,())))) (S:=Zgf t i) (by kernel_rfl) (ZHS t i) (ZGk t i) (ZIO t i hk)
end
end Go.Ev
end

section
open Go Go.Ev
namespace Go.Ev
noncomputable section
def ZgQ:Sig:=[(true,(.sl Za)),(false,(.int .i64))]
noncomputable def Zt0:Tbl:=[(45,ZtN)]
theorem ZHP:∀p∈Zt0,EntOK Go.Proofs.Tryz.prog p.1 p.2:=Zg Zxv (Zt)
noncomputable def Zox:Code:=Go.Proofs.Tryz.f29.body.getD .skip
def ZrU:Tb:=[(4,⟨[2,5,6],[]⟩),(9,⟨[2,5,6,7],[]⟩),(17,⟨[2,5,6,7,8,9],[]⟩)]
inductive Zk9 where | l4 (moved:Bool) (is:List Bool) | l9 (k:Int) (moved:Bool) (is:List Bool) | l17 (k:Int) (more:List Bool) (moved:Bool) (j_:Int) (is:List Bool)
def ZbU (t:List (El Za)) (i:Int):Zk9→JT Zk9 (List Bool) |.l4 moved is=>.br moved (.jmp (.l9 (0:Int) false is)) (.leaf is) |.l9 k moved is=>.br (decide (k < (Int.ofNat (List.length is)))) (.br ((decide ((0:Int)≤k))&&(decide (k < (Int.ofNat (List.length is))))) (.br (! (List.getD is (Int.toNat k) (dflt .bool))) (.jmp (.l9 (IntKind.i64.wrap (k+(1:Int))) moved is)) (.br (ZcO t k) (.jmp (.l17 k (Za7 t k) moved (0:Int) is)) (.no))) (.no)) (.jmp (.l4 moved is)) |.l17 k more moved j_ is=>.br (decide (j_ < (Int.ofNat (List.length is)))) (.br ((decide ((0:Int)≤j_))&&(decide (j_ < (Int.ofNat (List.length more))))) (.br (List.getD more (Int.toNat j_) (dflt .bool)) (.br ((decide ((0:Int)≤j_))&&(decide (j_ < (Int.ofNat (List.length is))))) (.br (! (List.getD is (Int.toNat j_) (dflt .bool))) (.br ((decide ((0:Int)≤j_))&&(decide (j_ < (Int.ofNat (List.length is))))) (.jmp (.l17 k more true (IntKind.i64.wrap (j_+(1:Int))) (List.set is (Int.toNat j_) true))) (.no)) (.jmp (.l17 k more moved (IntKind.i64.wrap (j_+(1:Int))) is))) (.no)) (.jmp (.l17 k more moved (IntKind.i64.wrap (j_+(1:Int))) is))) (.no)) (.jmp (.l9 (IntKind.i64.wrap (k+(1:Int))) moved is))
def ZqS (t:List (El Za)) (i:Int):JT Zk9 (List Bool):=.br (ZcO t i) (.jmp (.l4 true (Za7 t i))) (.no)
def ZpB:List Bool→AV:=fun (r:List Bool)=>.rw 4 .bool r
def Zgk (t:List (El Za)) (i:Int):Zk9→Nat×St |.l4 moved is=>(4,⟨mkTm 49 [(2,.pt 3 0 0),(5,.own 6 0 none),(6,.d .bool moved)],[(3,0,.box 33 [.d (.sl Za) t] none),(6,0,.row 4 .bool is false)]⟩) |.l9 k moved is=>(9,⟨mkTm 49 [(2,.pt 3 0 0),(5,.own 6 0 none),(6,.d .bool moved),(7,.d (.int .i64) k)],[(3,0,.box 33 [.d (.sl Za) t] none),(6,0,.row 4 .bool is false)]⟩) |.l17 k more moved j_ is=>(17,⟨mkTm 49 [(2,.pt 3 0 0),(5,.own 6 0 none),(6,.d .bool moved),(7,.d (.int .i64) k),(8,.own 9 0 none),(9,.d (.int .i64) j_)],[(3,0,.box 33 [.d (.sl Za) t] none),(6,0,.row 4 .bool is false),(9,0,.row 4 .bool more false)]⟩)
theorem ZGf (t:List (El Za)) (i:Int) (L:Lt):entryA Go.Proofs.Tryz.prog (clOf Zt0) ZrU Go.Proofs.Tryz.f29 Zox L (toForms ZgQ (t,i,()))=(ZqS t i).run (fun v=>some (ZpB v,tps (toForms ZgQ (t,i,())))) fun j=>L (Zgk t i j).1 (Zgk t i j).2:=by kernel_rfl
theorem ZGY (t:List (El Za)) (i:Int):∀(L:Lt) (j:Zk9),procOf (procsF Go.Proofs.Tryz.prog (clOf Zt0) ZrU Go.Proofs.Tryz.f29 Zox (toForms ZgQ (t,i,()))) (Zgk t i j).1 L (Zgk t i j).2=(ZbU t i j).run (fun v=>some (ZpB v,tps (toForms ZgQ (t,i,())))) fun j=>L (Zgk t i j).1 (Zgk t i j).2 | L,.l4 moved is=>by kernel_rfl | L,.l9 k moved is=>by kernel_rfl | L,.l17 k more moved j_ is=>by kernel_rfl
end
end Go.Ev
end

section
open Go
namespace Go.Ev
inductive Come (N:Nat→Nat→Bool) (A:Nat→Bool):Nat→Prop
 | start {j:Nat} :A j=true→Come N A j
 | step {k j:Nat} :Come N A k→N k j=true→Come N A j
noncomputable def comeB (N:Nat→Nat→Bool) (A:Nat→Bool) (j:Nat):Bool:= @decide (Come N A j) (Classical.propDecidable _)
theorem Zci {N:Nat→Nat→Bool} {A:Nat→Bool} {j:Nat} :comeB N A j=true↔Come N A j:= @decide_eq_true_iff _ (Classical.propDecidable _)
theorem ZpC {N:Nat→Nat→Bool} {A M:Nat→Bool} (h1:∀j,A j=true→M j=true) (h2:∀k j,M k=true→N k j=true→M j=true) (h3:∀j,M j=true→Come N A j) (j:Nat):M j=comeB N A j:=by
 rw[Bool.eq_iff_iff,Zci]
 refine ⟨h3 j,fun h=>?_⟩
 induction h with
 | start h=>exact h1 _ h
 | step _ h ih=>exact h2 _ _ ih h
theorem ZEG {N:Nat→Nat→Bool} {A:Nat→Bool} {n:Nat} (hA:∀j,A j=true→j < n) (hN:∀k j,N k j=true→j < n) {j:Nat} (h:Come N A j):j < n:=by
 cases h with
 | start h=>exact hA _ h
 | step _ h=>exact hN _ _ h
theorem ZMv {N N':Nat→Nat→Bool} {A A':Nat→Bool} (hA:∀j,A j=true→A' j=true) (hN:∀k j,N k j=true→N' k j=true) {j:Nat} (h:Come N A j):Come N' A' j:=by
 induction h with
 | start h=>exact .start (hA _ h)
 | step _ h ih=>exact .step ih (hN _ _ h)
def card (n:Nat) (M:Nat→Bool):Nat:=(List.range n).countP M
theorem Zfe {n:Nat} {M:Nat→Bool} :card n M≤n:=by
 have:=List.countP_le_length (p:=M) (l:=List.range n)
 simpa[card] using this
theorem Zmm {M:Nat→Bool} {i:Nat} (hM:M i=false):∀ {n:Nat},i < n→card n (fun j=>M j || (j==i))=card n M+1:=by
 intro n
 induction n with
 | zero=>intro h;omega
 | succ n ih=>
  intro h
  unfold card at*
  rw[List.range_succ,List.countP_append,List.countP_append]
  by_cases hi:i=n
  ·subst hi
   have e:(List.range i).countP (fun j=>M j || (j==i))=(List.range i).countP M:=List.countP_congr fun j hj=>by
    have:=List.mem_range.1 hj
    have:(j==i)=false:=by simp;omega
    rw[this,Bool.or_false]
   rw[e]
   simp[hM]
  ·rw[ih (by omega)]
   have:(n==i)=false:=by simp;omega
   simp[this]
   omega
theorem ZhX {n:Nat} {M:Nat→Bool} :(listOf n M).length=card n M:=by
 unfold listOf card
 rw[List.length_map,List.countP_eq_length_filter]
end Go.Ev
end

section
open Go
namespace Go.Ev
noncomputable def fromB (t:List (El Za)) (i:Int) (j:Nat):Bool:=comeB (fun k j=>nextB t (k:Int) j) (nextB t i) j
theorem ZNa {t:List (El Za)} {i:Int} {j:Nat} (h:fromB t i j=true):j < t.length:=ZEG (fun j=>Zel) (fun k j=>Zel) (Zci.1 h)
end Go.Ev
end

section
open Go
namespace Go.Ev
theorem Zbv {n:Nat} {M:Nat→Bool} {i:Nat} (h:i < n):List.getD (rowOf n M) i (dflt .bool)=M i:=by
 simp[List.getD,ZnN h]
theorem ZyQ {n:Nat} {M:Nat→Bool} {i:Nat} {b:Bool} :(rowOf n M).set i b=rowOf n fun j=>if j=i then b else M j:=by
 apply List.ext_getElem?
 intro j
 rw[List.getElem?_set,ZJ]
 by_cases hj:j < n
 ·rw[ZnN hj,ZnN hj]
  by_cases hi:i=j
  ·subst hi;rw[if_pos rfl,if_pos hj,if_pos rfl]
  ·rw[if_neg hi,if_neg (fun e=>hi e.symm)]
 ·rw[List.getElem?_eq_none (by rw[ZJ];omega),List.getElem?_eq_none (by rw[ZJ];omega)]
  by_cases hi:i=j
  ·rw[if_pos hi,if_neg (by omega)]
  ·rw[if_neg hi]
end Go.Ev
end

section
open Go
namespace Go.Ev
noncomputable def Zan (t:List (El Za)) (i:Int):List Bool:=rowOf t.length (fromB t i)
def Zb8 (t:List (El Za)) (i:Int):Bool:=flowOK t
theorem ZID (t:List (El Za)) (i:Int) (hk:Zb8 t i=true):Goes (ZbU t i) (ZqS t i) (Zan t i):=by
 have hlen:=ZbL hk
 generalize hn:t.length=n at hlen
 let OK:(Nat→Bool)→(Nat→Bool)→Bool→Prop:=fun M0 M moved=>(∀j,nextB t i j=true→M j=true)∧(∀j,M j=true→Come (fun k j=>nextB t (k:Int) j) (nextB t i) j)∧(moved=false→M=M0)∧(moved=true→card n M0 < card n M)
 have hltM:∀ {M0 M moved},OK M0 M moved→∀j,M j=true→j < n:=fun h j hj=>by
  have:=ZEG (n:=t.length) (fun j=>Zel) (fun k j=>Zel) (h.2.1 j hj)
  omega
 have loop:∀m,∀M:Nat→Bool,n - card n M=m→(∀j,nextB t i j=true→M j=true)→(∀j,M j=true→Come (fun k j=>nextB t (k:Int) j) (nextB t i) j)→Goes (ZbU t i) (.jmp (.l4 true (rowOf n M))) (Zan t i):=by
  intro m
  induction m using Nat.strongRecOn with
  | _ m ih=>
  intro M0 hm hA hC
  have inner:∀k,k < n→∀Z:Prop,(∀M moved,OK M0 M moved→(moved=false→Z∧∀j,nextB t (k:Int) j=true→M0 j=true)→Goes (ZbU t i) (.jmp (.l9 ((k+1:Nat):Int) moved (rowOf n M))) (Zan t i))→
    ∀j,j≤n→∀M moved,M k=true→OK M0 M moved→(moved=false→Z∧∀x,x < j→nextB t (k:Int) x=true→M0 x=true)→Goes (ZbU t i) (.jmp (.l17 (k:Int) (rowOf n (nextB t (k:Int))) moved (j:Int) (rowOf n M))) (Zan t i):=by
   intro k hkn Z hz
   refine down ?_ fun j hj ih2=>?_
   ·intro M moved hMk hok hcl
    rw[Zi,ZbU,Ze,ZJ,if_neg (by rw[Zy (Nat.lt_irrefl _)];decide),Zr (by omega)]
    exact hz M moved hok fun hm=>⟨(hcl hm).1,fun j hj=>(hcl hm).2 j (by have:=Zel hj;omega) hj⟩
   ·intro M moved hMk hok hcl
    rw[Zi,ZbU,Ze,ZJ,if_pos (ZS hj),Ze,ZJ,if_pos (Zaq hj),Ze,Int.toNat_natCast,Zbv hj,Zr (by omega)]
    by_cases hN:nextB t (k:Int) j=true
    ·rw[if_pos hN,Ze,if_pos (Zaq hj),Ze,Zbv hj]
     cases hMj:M j with
     | true=>
      rw[if_neg (by decide)]
      refine ih2 M moved hMk hok fun hm=>⟨(hcl hm).1,fun x hx hxN=>?_⟩
      by_cases hxj:x=j
      ·subst hxj;rw[←hok.2.2.1 hm];exact hMj
      ·exact (hcl hm).2 x (by omega) hxN
     | false=>
      rw[if_pos (by decide),Ze,if_pos (Zaq hj),ZqW]
      have hca:=Zmm hMj hj
      refine ih2 (fun x=>M x || (x==j)) true (by rw[hMk];rfl) ⟨fun x hx=>(show (M x || (x==j))=true by rw[hok.1 x hx];rfl),fun x hx=>?_,fun h=>(by cases h),fun _=>?_⟩ (fun h=>by cases h)
      ·simp only[Bool.or_eq_true,beq_iff_eq] at hx
       rcases hx with hx | hx
       ·exact hok.2.1 x hx
       ·subst hx;exact .step (hok.2.1 k hMk) hN
      ·cases moved with
       | true=>have:=hok.2.2.2 rfl;omega
       | false=>rw[hok.2.2.1 rfl] at hca;rw[hok.2.2.1 rfl];omega
    ·rw[if_neg hN]
     refine ih2 M moved hMk hok fun hm=>⟨(hcl hm).1,fun x hx hxN=>?_⟩
     by_cases hxj:x=j
     ·subst hxj;exact absurd hxN hN
     ·exact (hcl hm).2 x (by omega) hxN
  have pass:∀k,k≤n→∀M moved,OK M0 M moved→(moved=false→∀k' j,k' < k→M0 k'=true→nextB t (k':Int) j=true→M0 j=true)→Goes (ZbU t i) (.jmp (.l9 (k:Int) moved (rowOf n M))) (Zan t i):=by
   refine down ?_ fun k hkn ih2=>?_
   ·intro M moved hok hcl
    rw[Zi,ZbU,Ze,ZJ,if_neg (by rw[Zy (Nat.lt_irrefl _)];decide)]
    cases moved with
    | true=>
     have h1:=hok.2.2.2 rfl
     have h2:= @Zfe n M
     exact ih (n - card n M) (by omega) M rfl hok.1 hok.2.1
    | false=>
     have e:=hok.2.2.1 rfl
     subst e
     rw[Zi,ZbU,Ze,if_neg (by decide)]
     have hv:rowOf n M=Zan t i:=by
      unfold Zan fromB
      rw[hn]
      exact Z3 fun j _=>ZpC hok.1 (fun k j hk hj=>hcl rfl k j (hltM hok k hk) hk hj) hok.2.1 j
     rw[hv];exact .leaf
   ·intro M moved hok hcl
    rw[Zi,ZbU,Ze,ZJ,if_pos (ZS hkn),Ze,if_pos (Zaq hkn),Ze,Int.toNat_natCast,Zbv hkn]
    cases hMk:M k with
    | false=>
     rw[if_pos (by decide),Zr (by omega)]
     refine ih2 M moved hok fun hm k' j hk' hk1 hj=>?_
     by_cases e:k'=k
     ·subst e;rw[←hok.2.2.1 hm,hMk] at hk1;cases hk1
     ·exact hcl hm k' j (by omega) hk1 hj
    | true=>
     have kn:ZcO t (k:Int)=true:=hk
     rw[if_neg (by decide),Ze,if_pos kn]
     have hvn:Za7 t (k:Int)=rowOf n (nextB t (k:Int)):=by unfold Za7;rw[hn]
     rw[hvn]
     refine inner k hkn (∀k' j,k' < k→M0 k'=true→nextB t (k':Int) j=true→M0 j=true) (fun M' moved' hok' hcl'=>ih2 M' moved' hok' fun hm k' j hk' hk1 hj=>?_) 0 (Nat.zero_le _) M moved hMk hok (fun hm=>⟨hcl hm,fun x hx=>by omega⟩)
     by_cases e:k'=k
     ·subst e;exact (hcl' hm).2 j hj
     ·exact (hcl' hm).1 k' j (by omega) hk1 hj
  rw[Zi,ZbU,Ze,if_pos rfl]
  exact pass 0 (Nat.zero_le _) M0 false ⟨hA,hC,fun _=>rfl,fun h=>by cases h⟩ fun _ k' j h=>by omega
 have kn:ZcO t i=true:=hk
 unfold ZqS
 rw[Ze,if_pos kn]
 have hvn:Za7 t i=rowOf n (nextB t i):=by unfold Za7;rw[hn]
 rw[hvn]
 exact loop _ (nextB t i) rfl (fun j h=>h) (fun j h=>.start h)
end Go.Ev
end

section
open Go Go.Ev
namespace Go.Ev
noncomputable section
noncomputable def Ztt:Run:=entG ZgQ ZpB (fun a=>Zb8 a.1 a.2.1) (fun a=>Zan a.1 a.2.1)
theorem Zw6:EntOK Go.Proofs.Tryz.prog 29 Ztt:=ZM (tb:=ZrU) (c:=Zox) ZHP (by kernel_rfl) (by kernel_rfl) (by kernel_rfl) (fun a=>by kernel_rfl) fun ⟨t,i,_⟩ hk=>Zm (c:=Zox) (K:=fun v=>(ZpB v,tps (toForms ZgQ (t,i,())))) (S:=Zgk t i) (by kernel_rfl) (ZGf t i) (ZGY t i) (ZID t i hk)
end
end Go.Ev
end

section
open Go Go.Ev
namespace Go.Ev
noncomputable section
def Zfu:Sig:=[(true,Zb),(true,Zb)]
noncomputable def Zr3:Tbl:=[]
theorem ZEj:∀p∈Zr3,EntOK Go.Proofs.Tryz.prog p.1 p.2:=Zt
noncomputable def ZlN:Code:=Go.Proofs.Tryz.f52.body.getD .skip
def ZoX:Tb:=[]
def ZwT (a:El Zb) (b:El Zb):Empty→JT Empty (Bool):=fun j=>nomatch j
def ZvN (a:El Zb) (b:El Zb):JT Empty (Bool):=.br (a.1 !=b.1) (.br (a.2.2.2.1==b.2.2.2.1) (.br a.2.2.2.2.1 (.leaf true) (.leaf b.2.2.2.2.1)) (.leaf false)) (.leaf false)
def Zg3 (a:El Zb) (b:El Zb):Bool:=bif (a.1 !=b.1) then bif (a.2.2.2.1==b.2.2.2.1) then bif a.2.2.2.2.1 then true else b.2.2.2.2.1 else false else false
theorem ZGP (a:El Zb) (b:El Zb):Goes (ZwT a b) (ZvN a b) (Zg3 a b):=Goes.br (Goes.br (Goes.br (Goes.leaf) (Goes.leaf)) (Goes.leaf)) (Goes.leaf)
def ZmL:Bool→AV:=fun (r:Bool)=>.d .bool r
def ZeU (a:El Zb) (b:El Zb):Empty→Nat×St:=fun j=>nomatch j
theorem ZDq (a:El Zb) (b:El Zb) (L:Lt):entryA Go.Proofs.Tryz.prog (clOf Zr3) ZoX Go.Proofs.Tryz.f52 ZlN L (toForms Zfu (a,b,()))=(ZvN a b).run (fun v=>some (ZmL v,tps (toForms Zfu (a,b,())))) fun j=>L (ZeU a b j).1 (ZeU a b j).2:=by kernel_rfl
theorem ZFa (a:El Zb) (b:El Zb):∀(L:Lt) (j:Empty),procOf (procsF Go.Proofs.Tryz.prog (clOf Zr3) ZoX Go.Proofs.Tryz.f52 ZlN (toForms Zfu (a,b,()))) (ZeU a b j).1 L (ZeU a b j).2=(ZwT a b j).run (fun v=>some (ZmL v,tps (toForms Zfu (a,b,())))) fun j=>L (ZeU a b j).1 (ZeU a b j).2:=fun L j=>nomatch j
noncomputable def Zxp:Run:=entT Zfu ZmL (fun a=>Zg3 a.1 a.2.1)
theorem ZE9:EntOK Go.Proofs.Tryz.prog 52 Zxp:=Zav (tb:=ZoX) (c:=ZlN) ZEj (by kernel_rfl) (by kernel_rfl) (by kernel_rfl) (fun a=>by kernel_rfl) fun ⟨a,b,_⟩=>Zm (c:=ZlN) (K:=fun v=>(ZmL v,tps (toForms Zfu (a,b,())))) (S:=ZeU a b) (by kernel_rfl) (ZDq a b) (ZFa a b) (ZGP a b)
end
end Go.Ev
end

section
open Go Go.Ev
namespace Go.Ev
noncomputable section
def Zdd:Sig:=[(true,Zc),(true,Zb),(true,Zb)]
noncomputable def Zne:Tbl:=[(29,Ztt)]
theorem Zza:∀p∈Zne,EntOK Go.Proofs.Tryz.prog p.1 p.2:=Zg Zw6 (Zt)
noncomputable def ZiI:Code:=Go.Proofs.Tryz.f53.body.getD .skip
def Zll:Tb:=[]
def Ztm (p:El Zc) (a:El Zb) (b:El Zb):Empty→JT Empty (Bool):=fun j=>nomatch j
def ZqB (p:El Zc) (a:El Zb) (b:El Zb):JT Empty (Bool):=.br (a.1 !=b.1) (.leaf false) (.br ((a.1==b.1)&&((a.2.1==b.2.1)&&((a.2.2.1==b.2.2.1)&&((a.2.2.2.1==b.2.2.2.1)&&((a.2.2.2.2.1==b.2.2.2.2.1)&&(a.2.2.2.2.2==b.2.2.2.2.2)))))) (.leaf true) (.br (a.2.1==b.2.1) (.br (decide (b.2.2.1 > a.2.2.1)) (.leaf true) (.br ((decide ((0:Int)≤a.1))&&(decide (a.1 < (Int.ofNat (List.length p.2))))) (.br (Zb8 (List.getD p.2 (Int.toNat a.1) (dflt (.sl Za))) a.2.1) (.br ((decide ((0:Int)≤b.2.1))&&(decide (b.2.1 < (Int.ofNat (List.length (Zan (List.getD p.2 (Int.toNat a.1) (dflt (.sl Za))) a.2.1)))))) (.leaf (List.getD (Zan (List.getD p.2 (Int.toNat a.1) (dflt (.sl Za))) a.2.1) (Int.toNat b.2.1) (dflt .bool))) (.no)) (.no)) (.no))) (.br ((decide ((0:Int)≤a.1))&&(decide (a.1 < (Int.ofNat (List.length p.2))))) (.br (Zb8 (List.getD p.2 (Int.toNat a.1) (dflt (.sl Za))) a.2.1) (.br ((decide ((0:Int)≤b.2.1))&&(decide (b.2.1 < (Int.ofNat (List.length (Zan (List.getD p.2 (Int.toNat a.1) (dflt (.sl Za))) a.2.1)))))) (.leaf (List.getD (Zan (List.getD p.2 (Int.toNat a.1) (dflt (.sl Za))) a.2.1) (Int.toNat b.2.1) (dflt .bool))) (.no)) (.no)) (.no))))
def ZdS (p:El Zc) (a:El Zb) (b:El Zb):Bool:=bif (a.1 !=b.1) then false else bif ((a.1==b.1)&&((a.2.1==b.2.1)&&((a.2.2.1==b.2.2.1)&&((a.2.2.2.1==b.2.2.2.1)&&((a.2.2.2.2.1==b.2.2.2.2.1)&&(a.2.2.2.2.2==b.2.2.2.2.2)))))) then true else bif (a.2.1==b.2.1) then bif (decide (b.2.2.1 > a.2.2.1)) then true else bif ((decide ((0:Int)≤a.1))&&(decide (a.1 < (Int.ofNat (List.length p.2))))) then bif (Zb8 (List.getD p.2 (Int.toNat a.1) (dflt (.sl Za))) a.2.1) then bif ((decide ((0:Int)≤b.2.1))&&(decide (b.2.1 < (Int.ofNat (List.length (Zan (List.getD p.2 (Int.toNat a.1) (dflt (.sl Za))) a.2.1)))))) then (List.getD (Zan (List.getD p.2 (Int.toNat a.1) (dflt (.sl Za))) a.2.1) (Int.toNat b.2.1) (dflt .bool)) else false else false else false else bif ((decide ((0:Int)≤a.1))&&(decide (a.1 < (Int.ofNat (List.length p.2))))) then bif (Zb8 (List.getD p.2 (Int.toNat a.1) (dflt (.sl Za))) a.2.1) then bif ((decide ((0:Int)≤b.2.1))&&(decide (b.2.1 < (Int.ofNat (List.length (Zan (List.getD p.2 (Int.toNat a.1) (dflt (.sl Za))) a.2.1)))))) then (List.getD (Zan (List.getD p.2 (Int.toNat a.1) (dflt (.sl Za))) a.2.1) (Int.toNat b.2.1) (dflt .bool)) else false else false else false
def Zed (p:El Zc) (a:El Zb) (b:El Zb):Bool:=bif (a.1 !=b.1) then true else bif ((a.1==b.1)&&((a.2.1==b.2.1)&&((a.2.2.1==b.2.2.1)&&((a.2.2.2.1==b.2.2.2.1)&&((a.2.2.2.2.1==b.2.2.2.2.1)&&(a.2.2.2.2.2==b.2.2.2.2.2)))))) then true else bif (a.2.1==b.2.1) then bif (decide (b.2.2.1 > a.2.2.1)) then true else bif ((decide ((0:Int)≤a.1))&&(decide (a.1 < (Int.ofNat (List.length p.2))))) then bif (Zb8 (List.getD p.2 (Int.toNat a.1) (dflt (.sl Za))) a.2.1) then bif ((decide ((0:Int)≤b.2.1))&&(decide (b.2.1 < (Int.ofNat (List.length (Zan (List.getD p.2 (Int.toNat a.1) (dflt (.sl Za))) a.2.1)))))) then true else false else false else false else bif ((decide ((0:Int)≤a.1))&&(decide (a.1 < (Int.ofNat (List.length p.2))))) then bif (Zb8 (List.getD p.2 (Int.toNat a.1) (dflt (.sl Za))) a.2.1) then bif ((decide ((0:Int)≤b.2.1))&&(decide (b.2.1 < (Int.ofNat (List.length (Zan (List.getD p.2 (Int.toNat a.1) (dflt (.sl Za))) a.2.1)))))) then true else false else false else false
theorem ZAP (p:El Zc) (a:El Zb) (b:El Zb) (hk:Zed p a b=true):Goes (Ztm p a b) (ZqB p a b) (ZdS p a b):=Goes.brk hk (fun hk=>Goes.leaf) (fun hk=>Goes.brk hk (fun hk=>Goes.leaf) (fun hk=>Goes.brk hk (fun hk=>Goes.brk hk (fun hk=>Goes.leaf) (fun hk=>Goes.brk hk (fun hk=>Goes.brk hk (fun hk=>Goes.brk hk (fun hk=>Goes.leaf) (fun hk=>Goes.nok hk)) (fun hk=>Goes.nok hk)) (fun hk=>Goes.nok hk))) (fun hk=>Goes.brk hk (fun hk=>Goes.brk hk (fun hk=>Goes.brk hk (fun hk=>Goes.leaf) (fun hk=>Goes.nok hk)) (fun hk=>Goes.nok hk)) (fun hk=>Goes.nok hk))))
def ZiB:Bool→AV:=fun (r:Bool)=>.d .bool r
def Zc0 (p:El Zc) (a:El Zb) (b:El Zb):Empty→Nat×St:=fun j=>nomatch j
theorem Zy6 (p:El Zc) (a:El Zb) (b:El Zb) (L:Lt):entryA Go.Proofs.Tryz.prog (clOf Zne) Zll Go.Proofs.Tryz.f53 ZiI L (toForms Zdd (p,a,b,()))=(ZqB p a b).run (fun v=>some (ZiB v,tps (toForms Zdd (p,a,b,())))) fun j=>L (Zc0 p a b j).1 (Zc0 p a b j).2:=by kernel_rfl
theorem ZzJ (p:El Zc) (a:El Zb) (b:El Zb):∀(L:Lt) (j:Empty),procOf (procsF Go.Proofs.Tryz.prog (clOf Zne) Zll Go.Proofs.Tryz.f53 ZiI (toForms Zdd (p,a,b,()))) (Zc0 p a b j).1 L (Zc0 p a b j).2=(Ztm p a b j).run (fun v=>some (ZiB v,tps (toForms Zdd (p,a,b,())))) fun j=>L (Zc0 p a b j).1 (Zc0 p a b j).2:=fun L j=>nomatch j
noncomputable def ZsW:Run:=entG Zdd ZiB (fun a=>Zed a.1 a.2.1 a.2.2.1) (fun a=>ZdS a.1 a.2.1 a.2.2.1)
theorem ZzG:EntOK Go.Proofs.Tryz.prog 53 ZsW:=ZM (tb:=Zll) (c:=ZiI) Zza (by kernel_rfl) (by kernel_rfl) (by kernel_rfl) (fun a=>by kernel_rfl) fun ⟨p,a,b,_⟩ hk=>Zm (c:=ZiI) (K:=fun v=>(ZiB v,tps (toForms Zdd (p,a,b,())))) (S:=Zc0 p a b) (by kernel_rfl) (Zy6 p a b) (ZzJ p a b) (ZAP p a b hk)
end
end Go.Ev
end

section
open Go Go.Ev
namespace Go.Ev
noncomputable section
def ZgN:Sig:=[(true,Zc),(false,(.sl Zb)),(false,(.int .i64))]
noncomputable def Ztz:Tbl:=[(52,Zxp),(53,ZsW)]
theorem ZGD:∀p∈Ztz,EntOK Go.Proofs.Tryz.prog p.1 p.2:=Zg ZE9 (Zg ZzG (Zt))
noncomputable def Zp7:Code:=Go.Proofs.Tryz.f30.body.getD .skip
def ZrP:Tb:=[(8,⟨[1,2,3,7,8,9,95,105,147,156],[]⟩),(14,⟨[1,2,3,7,8,10,95,105,147,156],[]⟩),(19,⟨[1,2,3,7,8,10,11,95,105,147,156],[]⟩),(24,⟨[1,2,3,7,8,10,11,12,147,156],[]⟩),(31,⟨[1,2,7,8,13,147,156],[]⟩),(36,⟨[1,2,7,8,13,14],[]⟩)]
inductive Zk6 where | l8 (i:Int) (is:List Bool) | l14 (is:List Bool) (moved:Bool) | l19 (is:List Bool) (i:Int) (moved:Bool) | l24 (is:List Bool) (moved:Bool) (k:Int) (i:Int) | l31 (is:List Bool) (i:Int) (out:List Bool) | l36 (is:List Bool) (k:Int) (out:List Bool) (i:Int)
def ZaU (p:El Zc) (l:List (El Zb)) (a:Int):Zk6→JT Zk6 (List Bool) |.l8 i is=>.br (decide (i < (Int.ofNat (List.length l)))) (.br ((decide ((0:Int)≤a))&&(decide (a < (Int.ofNat (List.length l))))) (.br ((decide ((0:Int)≤i))&&(decide (i < (Int.ofNat (List.length l))))) (.br ((decide ((0:Int)≤i))&&(decide (i < (Int.ofNat (List.length is))))) (.jmp (.l8 (IntKind.i64.wrap (i+(1:Int))) (List.set is (Int.toNat i) (Zg3 (List.getD l (Int.toNat a) (dflt Zb)) (List.getD l (Int.toNat i) (dflt Zb)))))) (.no)) (.no)) (.no)) (.jmp (.l14 is true)) |.l14 is moved=>.br moved (.jmp (.l19 is (0:Int) false)) (.jmp (.l31 is (0:Int) (List.replicate (List.length l) false))) |.l19 is i moved=>.br (decide (i < (Int.ofNat (List.length l)))) (.jmp (.l24 is moved (0:Int) i)) (.jmp (.l14 is moved)) |.l24 is moved k i=>.br (decide (k < (Int.ofNat (List.length l)))) (.br ((decide ((0:Int)≤i))&&(decide (i < (Int.ofNat (List.length is))))) (.br (List.getD is (Int.toNat i) (dflt .bool)) (.br ((decide ((0:Int)≤k))&&(decide (k < (Int.ofNat (List.length is))))) (.br (! (List.getD is (Int.toNat k) (dflt .bool))) (.br ((decide ((0:Int)≤k))&&(decide (k < (Int.ofNat (List.length l))))) (.br ((decide ((0:Int)≤a))&&(decide (a < (Int.ofNat (List.length l))))) (.br ((List.getD l (Int.toNat k) (dflt Zb)).1 !=(List.getD l (Int.toNat a) (dflt Zb)).1) (.br ((decide ((0:Int)≤i))&&(decide (i < (Int.ofNat (List.length l))))) (.br ((decide ((0:Int)≤k))&&(decide (k < (Int.ofNat (List.length l))))) (.br (Zg3 (List.getD l (Int.toNat i) (dflt Zb)) (List.getD l (Int.toNat k) (dflt Zb))) (.br ((decide ((0:Int)≤k))&&(decide (k < (Int.ofNat (List.length is))))) (.jmp (.l24 (List.set is (Int.toNat k) true) true (IntKind.i64.wrap (k+(1:Int))) i)) (.no)) (.br ((decide ((0:Int)≤i))&&(decide (i < (Int.ofNat (List.length l))))) (.br ((decide ((0:Int)≤k))&&(decide (k < (Int.ofNat (List.length l))))) (.br (Zed p (List.getD l (Int.toNat i) (dflt Zb)) (List.getD l (Int.toNat k) (dflt Zb))) (.br (ZdS p (List.getD l (Int.toNat i) (dflt Zb)) (List.getD l (Int.toNat k) (dflt Zb))) (.br ((decide ((0:Int)≤k))&&(decide (k < (Int.ofNat (List.length is))))) (.jmp (.l24 (List.set is (Int.toNat k) true) true (IntKind.i64.wrap (k+(1:Int))) i)) (.no)) (.jmp (.l24 is moved (IntKind.i64.wrap (k+(1:Int))) i))) (.no)) (.no)) (.no))) (.no)) (.no)) (.jmp (.l24 is moved (IntKind.i64.wrap (k+(1:Int))) i))) (.no)) (.no)) (.jmp (.l24 is moved (IntKind.i64.wrap (k+(1:Int))) i))) (.no)) (.jmp (.l19 is (IntKind.i64.wrap (i+(1:Int))) moved))) (.no)) (.jmp (.l19 is (IntKind.i64.wrap (i+(1:Int))) moved)) |.l31 is i out=>.br (decide (i < (Int.ofNat (List.length l)))) (.jmp (.l36 is (0:Int) out i)) (.leaf out) |.l36 is k out i=>.br (decide (k < (Int.ofNat (List.length l)))) (.br ((decide ((0:Int)≤i))&&(decide (i < (Int.ofNat (List.length l))))) (.br ((decide ((0:Int)≤a))&&(decide (a < (Int.ofNat (List.length l))))) (.br ((List.getD l (Int.toNat i) (dflt Zb)).1==(List.getD l (Int.toNat a) (dflt Zb)).1) (.br ((decide ((0:Int)≤i))&&(decide (i < (Int.ofNat (List.length out))))) (.br (List.getD out (Int.toNat i) (dflt .bool)) (.br ((decide ((0:Int)≤i))&&(decide (i < (Int.ofNat (List.length out))))) (.jmp (.l36 is (IntKind.i64.wrap (k+(1:Int))) (List.set out (Int.toNat i) true) i)) (.no)) (.br ((decide ((0:Int)≤k))&&(decide (k < (Int.ofNat (List.length is))))) (.br (List.getD is (Int.toNat k) (dflt .bool)) (.br ((decide ((0:Int)≤k))&&(decide (k < (Int.ofNat (List.length l))))) (.br ((decide ((0:Int)≤i))&&(decide (i < (Int.ofNat (List.length l))))) (.br ((decide ((0:Int)≤i))&&(decide (i < (Int.ofNat (List.length out))))) (.jmp (.l36 is (IntKind.i64.wrap (k+(1:Int))) (List.set out (Int.toNat i) (Zg3 (List.getD l (Int.toNat k) (dflt Zb)) (List.getD l (Int.toNat i) (dflt Zb)))) i)) (.no)) (.no)) (.no)) (.br ((decide ((0:Int)≤i))&&(decide (i < (Int.ofNat (List.length out))))) (.jmp (.l36 is (IntKind.i64.wrap (k+(1:Int))) (List.set out (Int.toNat i) false) i)) (.no))) (.no))) (.no)) (.jmp (.l31 is (IntKind.i64.wrap (i+(1:Int))) out))) (.no)) (.no)) (.jmp (.l31 is (IntKind.i64.wrap (i+(1:Int))) out))
def Zqo (p:El Zc) (l:List (El Zb)) (a:Int):JT Zk6 (List Bool):=.br ((((Int.ofNat (List.length l))==(Int.ofNat (List.length l)))&&(decide ((0:Int)≤(Int.ofNat (List.length l)))))&&(decide (((Int.ofNat (List.length l))*(1:Int))≤(limit:Int)))) (.br (decide (a < (0:Int))) (.leaf (List.replicate (List.length l) false)) (.br (decide (a≥(Int.ofNat (List.length l)))) (.leaf (List.replicate (List.length l) false)) (.br ((((Int.ofNat (List.length l))==(Int.ofNat (List.length l)))&&(decide ((0:Int)≤(Int.ofNat (List.length l)))))&&(decide (((Int.ofNat (List.length l))*(1:Int))≤(limit:Int)))) (.jmp (.l8 (0:Int) (List.replicate (List.length l) false))) (.no)))) (.no)
def Zos:List Bool→AV:=fun (r:List Bool)=>.rw 4 .bool r
def Zgy (p:El Zc) (l:List (El Zb)) (a:Int):Zk6→Nat×St |.l8 i is=>(8,⟨mkTm 161 [(1,.d (.sl Zb) l),(2,.d (.int .i64) a),(3,.pt 4 0 0),(7,.own 8 0 none),(8,.own 9 0 none),(9,.d (.int .i64) i)],[(4,0,.box 26 [.d (.sl Zx) p.1,.d (.sl (.sl Za)) p.2] none),(8,0,.row 4 .bool (List.replicate (List.length l) false) false),(9,0,.row 4 .bool is false)]⟩) |.l14 is moved=>(14,⟨mkTm 161 [(1,.d (.sl Zb) l),(2,.d (.int .i64) a),(3,.pt 4 0 0),(7,.own 8 0 none),(8,.own 9 0 none),(10,.d .bool moved)],[(4,0,.box 26 [.d (.sl Zx) p.1,.d (.sl (.sl Za)) p.2] none),(8,0,.row 4 .bool (List.replicate (List.length l) false) false),(9,0,.row 4 .bool is false)]⟩) |.l19 is i moved=>(19,⟨mkTm 161 [(1,.d (.sl Zb) l),(2,.d (.int .i64) a),(3,.pt 4 0 0),(7,.own 8 0 none),(8,.own 9 0 none),(10,.d .bool moved),(11,.d (.int .i64) i)],[(4,0,.box 26 [.d (.sl Zx) p.1,.d (.sl (.sl Za)) p.2] none),(8,0,.row 4 .bool (List.replicate (List.length l) false) false),(9,0,.row 4 .bool is false)]⟩) |.l24 is moved k i=>(24,⟨mkTm 161 [(1,.d (.sl Zb) l),(2,.d (.int .i64) a),(3,.pt 4 0 0),(7,.own 8 0 none),(8,.own 9 0 none),(10,.d .bool moved),(11,.d (.int .i64) i),(12,.d (.int .i64) k)],[(4,0,.box 26 [.d (.sl Zx) p.1,.d (.sl (.sl Za)) p.2] none),(8,0,.row 4 .bool (List.replicate (List.length l) false) false),(9,0,.row 4 .bool is false)]⟩) |.l31 is i out=>(31,⟨mkTm 161 [(1,.d (.sl Zb) l),(2,.d (.int .i64) a),(7,.own 8 0 none),(8,.own 9 0 none),(13,.d (.int .i64) i)],[(8,0,.row 4 .bool out false),(9,0,.row 4 .bool is false)]⟩) |.l36 is k out i=>(36,⟨mkTm 161 [(1,.d (.sl Zb) l),(2,.d (.int .i64) a),(7,.own 8 0 none),(8,.own 9 0 none),(13,.d (.int .i64) i),(14,.d (.int .i64) k)],[(8,0,.row 4 .bool out false),(9,0,.row 4 .bool is false)]⟩)
theorem ZIh (p:El Zc) (l:List (El Zb)) (a:Int) (L:Lt):entryA Go.Proofs.Tryz.prog (clOf Ztz) ZrP Go.Proofs.Tryz.f30 Zp7 L (toForms ZgN (p,l,a,()))=(Zqo p l a).run (fun v=>some (Zos v,tps (toForms ZgN (p,l,a,())))) fun j=>L (Zgy p l a j).1 (Zgy p l a j).2:=by kernel_rfl
theorem ZHk (p:El Zc) (l:List (El Zb)) (a:Int):∀(L:Lt) (j:Zk6),procOf (procsF Go.Proofs.Tryz.prog (clOf Ztz) ZrP Go.Proofs.Tryz.f30 Zp7 (toForms ZgN (p,l,a,()))) (Zgy p l a j).1 L (Zgy p l a j).2=(ZaU p l a j).run (fun v=>some (Zos v,tps (toForms ZgN (p,l,a,())))) fun j=>L (Zgy p l a j).1 (Zgy p l a j).2 | L,.l8 i is=>by kernel_rfl | L,.l14 is moved=>by kernel_rfl | L,.l19 is i moved=>by kernel_rfl | L,.l24 is moved k i=>by kernel_rfl | L,.l31 is i out=>by kernel_rfl | L,.l36 is k out i=>by kernel_rfl
end
end Go.Ev
end

section
open Go
namespace Go.Ev
def roundL (N:Nat→Nat→Bool) (n:Nat) (r:List Bool):List Bool:=(List.range n).map fun j=>r.getD j false || (List.range n).any fun k=>r.getD k false&&N k j
def iterL (N:Nat→Nat→Bool) (n:Nat):Nat→List Bool→List Bool
 | 0,r=>r
 | m+1,r=>iterL N n m (roundL N n r)
def comeL (N:Nat→Nat→Bool) (A:Nat→Bool) (n:Nat):List Bool:=iterL N n n ((List.range n).map A)
theorem ZDk {n:Nat} {M:Nat→Bool} {j:Nat} :((List.range n).map M).getD j false=(decide (j < n)&&M j):=by
 rw[List.getD_eq_getElem?_getD,List.getElem?_map]
 by_cases h:j < n
 ·rw[List.getElem?_range h,decide_eq_true h];rfl
 ·rw[List.getElem?_eq_none (by simpa using h),decide_eq_false h];rfl
theorem Zlc {N:Nat→Nat→Bool} {n:Nat} {r:List Bool} {j:Nat} :(roundL N n r).getD j false=true↔j < n∧(r.getD j false=true∨∃k,k < n∧r.getD k false=true∧N k j=true):=by
 unfold roundL
 rw[ZDk]
 simp only[Bool.and_eq_true,decide_eq_true_eq,Bool.or_eq_true,List.any_eq_true,List.mem_range]
theorem ZCh {N:Nat→Nat→Bool} {A:Nat→Bool} {n:Nat} :∀(m:Nat) (r:List Bool),(∀j,r.getD j false=true→Come N A j)→∀j,(iterL N n m r).getD j false=true→Come N A j
 | 0,r,h,j,hj=>h j hj
 | m+1,r,h,j,hj=>ZCh m _ (fun j hj=>by
   obtain ⟨_,h1 | ⟨k,_,hk,hN⟩⟩:=Zlc.1 hj
   ·exact h j h1
   ·exact .step (h k hk) hN) j hj
def cnt (n:Nat) (r:List Bool):Nat:=card n fun j=>r.getD j false
theorem ZGS {n:Nat} {M M':Nat→Bool} (h:∀j,M j=true→M' j=true):card n M≤card n M':=List.countP_mono_left fun j _ hj=>h j hj
theorem ZOH {n:Nat} {M M':Nat→Bool} (h:∀j,M j=true→M' j=true) {i:Nat} (hi:i < n) (h1:M i=false) (h2:M' i=true):card n M+1≤card n M':=by
 rw[←Zmm h1 hi]
 refine ZGS fun j hj=>?_
 rw[Bool.or_eq_true] at hj
 rcases hj with hj | hj
 ·exact h j hj
 ·rw[beq_iff_eq] at hj;subst hj;exact h2
theorem ZLJ {n:Nat} {M:Nat→Bool} (h:n≤card n M):∀j,j < n→M j=true:=by
 intro j hj
 cases hM:M j with
 | true=>rfl
 | false=>
  have h1:=Zmm hM hj
  have:= @Zfe n (fun k=>M k || (k==j))
  omega
def closedL (N:Nat→Nat→Bool) (n:Nat) (r:List Bool):Prop:=∀k j,k < n→j < n→r.getD k false=true→N k j=true→r.getD j false=true
theorem Zzw {N:Nat→Nat→Bool} {n:Nat} :∀(m:Nat) (r:List Bool),closedL N n r∨n≤cnt n r+m→(closedL N n (iterL N n m r))∧∀j,j < n→r.getD j false=true→(iterL N n m r).getD j false=true
 | 0,r,h=>by
  refine ⟨?_,fun j _ h=>h⟩
  rcases h with h | h
  ·exact h
  ·exact fun k j _ hj _ _=>ZLJ (M:=fun j=>r.getD j false) (by simpa[cnt] using h) j hj
 | m+1,r,h=>by
  have keep:∀j,j < n→r.getD j false=true→(roundL N n r).getD j false=true:=fun j hj h=>Zlc.2 ⟨hj,.inl h⟩
  have hrec:=Zzw m (roundL N n r) (by
   rcases h with h | h
   ·left
    intro k j hk hj h1 h2
    refine keep j hj ?_
    obtain ⟨_,h3 | ⟨q,hq,h3,h4⟩⟩:=Zlc.1 h1
    ·exact h k j hk hj h3 h2
    ·exact h k j hk hj (h q k hq hk h3 h4) h2
   ·by_cases hc:closedL N n (roundL N n r)
    ·exact .inl hc
    ·right
     have hnc:¬closedL N n r:=fun hc'=>hc (by
      intro k j hk hj h1 h2
      refine keep j hj ?_
      obtain ⟨_,h3 | ⟨q,hq,h3,h4⟩⟩:=Zlc.1 h1
      ·exact hc' k j hk hj h3 h2
      ·exact hc' k j hk hj (hc' q k hq hk h3 h4) h2)
     have ⟨k,j,hk,hj,h1,h2,h3⟩:∃k j,k < n∧j < n∧r.getD k false=true∧N k j=true∧r.getD j false=false:=by
      refine Classical.byContradiction fun hn=>hnc fun k j hk hj h1 h2=>?_
      cases hb:r.getD j false with
      | true=>rfl
      | false=>exact absurd ⟨k,j,hk,hj,h1,h2,hb⟩ hn
     have hlt:card n (fun j=>decide (j < n)&&r.getD j false)+1≤cnt n (roundL N n r):=ZOH (M':=fun j=>(roundL N n r).getD j false) (fun j hj'=>by
      rw[Bool.and_eq_true,decide_eq_true_eq] at hj'
      exact keep j hj'.1 hj'.2) hj (by rw[h3,Bool.and_false]) (Zlc.2 ⟨hj,.inr ⟨k,hk,h1,h2⟩⟩)
     have he:card n (fun j=>decide (j < n)&&r.getD j false)=cnt n r:=List.countP_congr fun j hj=>by
      have:=List.mem_range.1 hj
      simp[this]
     omega)
  exact ⟨hrec.1,fun j hj h1=>hrec.2 j hj (keep j hj h1)⟩
theorem ZFh {N:Nat→Nat→Bool} {A:Nat→Bool} {n:Nat} (hA:∀j,A j=true→j < n) (hN:∀k j,N k j=true→j < n) (j:Nat):comeB N A j=(comeL N A n).getD j false:=by
 obtain ⟨hc,hk⟩:=Zzw (N:=N) (n:=n) n ((List.range n).map A) (.inr (Nat.le_add_left _ _))
 have hlt:∀m r j,r.length≤n→(iterL N n m r).getD j false=true→j < n:=by
  intro m
  induction m with
  | zero=>
   intro r j hr h
   have h:r.getD j false=true:=h
   rw[List.getD_eq_getElem?_getD] at h
   by_cases hj:j < r.length
   ·omega
   ·rw[List.getElem?_eq_none (by omega)] at h;cases h
  | succ m ih=>intro r j _ h;exact ih _ j (by simp[roundL]) h
 symm
 refine ZpC (M:=fun j=>(comeL N A n).getD j false) (fun j hj=>hk j (hA j hj) ?_) (fun k j h1 h2=>?_) (fun j hj=>?_) j
 ·rw[ZDk,decide_eq_true (hA j hj),hj];rfl
 ·exact hc k j (hlt n _ k (by simp) h1) (hN k j h2) h1 h2
 ·exact ZCh n _ (fun j hj=>by
   rw[ZDk,Bool.and_eq_true] at hj
   exact .start hj.2) j hj
end Go.Ev
end

section
open Go Go.Ev
namespace Go.Ev
noncomputable section
def Zea:Sig:=[(true,Zb),(true,Zb)]
noncomputable def ZpI:Tbl:=[]
theorem ZAG:∀p∈ZpI,EntOK Go.Proofs.Tryz.prog p.1 p.2:=Zt
noncomputable def Zkc:Code:=Go.Proofs.Tryz.f65.body.getD .skip
def Zm0:Tb:=[]
def Zvg (a:El Zb) (b:El Zb):Empty→JT Empty (Bool):=fun j=>nomatch j
def Ztj (a:El Zb) (b:El Zb):JT Empty (Bool):=.br (a.1 !=b.1) (.br (a.2.2.2.1==b.2.2.2.1) (.br a.2.2.2.2.1 (.leaf true) (.leaf b.2.2.2.2.1)) (.leaf false)) (.leaf false)
def ZfE (a:El Zb) (b:El Zb):Bool:=bif (a.1 !=b.1) then bif (a.2.2.2.1==b.2.2.2.1) then bif a.2.2.2.2.1 then true else b.2.2.2.2.1 else false else false
theorem ZD2 (a:El Zb) (b:El Zb):Goes (Zvg a b) (Ztj a b) (ZfE a b):=Goes.br (Goes.br (Goes.br (Goes.leaf) (Goes.leaf)) (Goes.leaf)) (Goes.leaf)
def Zj1:Bool→AV:=fun (r:Bool)=>.d .bool r
def Zdu (a:El Zb) (b:El Zb):Empty→Nat×St:=fun j=>nomatch j
theorem ZBr (a:El Zb) (b:El Zb) (L:Lt):entryA Go.Proofs.Tryz.prog (clOf ZpI) Zm0 Go.Proofs.Tryz.f65 Zkc L (toForms Zea (a,b,()))=(Ztj a b).run (fun v=>some (Zj1 v,tps (toForms Zea (a,b,())))) fun j=>L (Zdu a b j).1 (Zdu a b j).2:=by kernel_rfl
theorem ZAQ (a:El Zb) (b:El Zb):∀(L:Lt) (j:Empty),procOf (procsF Go.Proofs.Tryz.prog (clOf ZpI) Zm0 Go.Proofs.Tryz.f65 Zkc (toForms Zea (a,b,()))) (Zdu a b j).1 L (Zdu a b j).2=(Zvg a b j).run (fun v=>some (Zj1 v,tps (toForms Zea (a,b,())))) fun j=>L (Zdu a b j).1 (Zdu a b j).2:=fun L j=>nomatch j
noncomputable def Zvm:Run:=entT Zea Zj1 (fun a=>ZfE a.1 a.2.1)
theorem ZAv:EntOK Go.Proofs.Tryz.prog 65 Zvm:=Zav (tb:=Zm0) (c:=Zkc) ZAG (by kernel_rfl) (by kernel_rfl) (by kernel_rfl) (fun a=>by kernel_rfl) fun ⟨a,b,_⟩=>Zm (c:=Zkc) (K:=fun v=>(Zj1 v,tps (toForms Zea (a,b,())))) (S:=Zdu a b) (by kernel_rfl) (ZBr a b) (ZAQ a b) (ZD2 a b)
end
end Go.Ev
end

section
open Go
namespace Go.Ev
abbrev Acc:=El Zb
def accA (l:List Acc) (i:Nat):Acc:=l.getD i (dflt Zb)
def thA (l:List Acc) (i:Nat):Int:=(accA l i).1
def inA (l:List Acc) (i:Nat):Int:=(accA l i).2.1
def paA (l:List Acc) (i:Nat):Int:=(accA l i).2.2.1
def clB (l:List Acc) (i j:Nat):Bool:=ZfE (accA l i) (accA l j)
def thrOf (p:El Zc) (l:List Acc) (c:Nat):List (El Za):=p.2.getD (thA l c).toNat (dflt (.sl Za))
noncomputable def behB (p:El Zc) (l:List Acc) (c d:Nat):Bool:=
 decide (d < l.length)&&(thA l d==thA l c&&(d==c || ((inA l d==inA l c&&decide (paA l d > paA l c)) || (decide (0≤inA l d)&&fromB (thrOf p l c) (inA l c) (inA l d).toNat))))
theorem ZLC {p:El Zc} {l:List Acc} {c d:Nat} (h:behB p l c d=true):d < l.length∧thA l d=thA l c:=by
 unfold behB at h
 simp only[Bool.and_eq_true,decide_eq_true_eq,beq_iff_eq] at h
 exact ⟨h.1,h.2.1⟩
theorem ZF5 {p:El Zc} {l:List Acc} {c:Nat} (h:c < l.length):behB p l c c=true:=by
 unfold behB
 simp[h]
theorem ZKW {t:List (El Za)} {i:Int} {j k:Nat} (h1:fromB t i j=true) (h2:fromB t (j:Int) k=true):fromB t i k=true:=by
 unfold fromB at*
 rw[Zci] at*
 induction h2 with
 | start h=>exact .step h1 h
 | step _ h ih=>exact .step ih h
theorem ZLn {p:El Zc} {l:List Acc} {c d e:Nat} (h1:behB p l c d=true) (h2:behB p l d e=true):behB p l c e=true:=by
 unfold behB at*
 have ht:thrOf p l d=thrOf p l c:=by
  simp only[Bool.and_eq_true,beq_iff_eq] at h1
  unfold thrOf
  rw[h1.2.1]
 rw[ht] at h2
 simp only[Bool.and_eq_true,Bool.or_eq_true,decide_eq_true_eq,beq_iff_eq] at*
 obtain ⟨a1,a2,a3⟩:=h1
 obtain ⟨b1,b2,b3⟩:=h2
 refine ⟨b1,b2.trans a2,?_⟩
 rcases a3 with rfl | a3
 ·exact b3
 rcases b3 with rfl | b3
 ·exact .inr a3
 right
 rcases a3 with ⟨a3,a4⟩ | ⟨a3,a4⟩
 ·rcases b3 with ⟨b3,b4⟩ | ⟨b3,b4⟩
  ·exact .inl ⟨b3.trans a3,by omega⟩
  ·right
   rw[a3] at b4
   exact ⟨b3,b4⟩
 ·right
  rcases b3 with ⟨b3,b4⟩ | ⟨b3,b4⟩
  ·rw[b3]
   exact ⟨a3,a4⟩
  ·refine ⟨b3,ZKW a4 ?_⟩
   rw[Int.toNat_of_nonneg a3]
   exact b4
noncomputable def chB (p:El Zc) (l:List Acc) (a i k:Nat):Bool:=decide (k < l.length)&&(!(thA l k==thA l a)&&(clB l i k || behB p l i k))
def chS (l:List Acc) (a k:Nat):Bool:=decide (k < l.length)&&clB l a k
noncomputable def isB (p:El Zc) (l:List Acc) (a k:Nat):Bool:=comeB (chB p l a) (chS l a) k
noncomputable def backB (p:El Zc) (l:List Acc) (a b:Nat):Bool:=thA l b==thA l a&&(List.range l.length).any fun k=>isB p l a k&&clB l k b
theorem ZOb {l:List Acc} {i j:Nat} (h:clB l i j=true):thA l i≠thA l j:=by
 intro e
 unfold clB ZfE at h
 have:((accA l i).1 !=(accA l j).1)=false:=by
  show ((thA l i) !=(thA l j))=false
  rw[e];simp
 rw[this] at h
 cases h
theorem ZOY {p:El Zc} {l:List Acc} {a k:Nat} (h:isB p l a k=true):k < l.length∧thA l k≠thA l a:=by
 have h:=Zci.1 h
 cases h with
 | start h=>
  unfold chS at h
  simp only[Bool.and_eq_true,decide_eq_true_eq] at h
  exact ⟨h.1,fun e=>ZOb h.2 e.symm⟩
 | step _ h=>
  unfold chB at h
  simp only[Bool.and_eq_true,decide_eq_true_eq,Bool.not_eq_true',beq_eq_false_iff_ne] at h
  exact ⟨h.1,h.2.1⟩
theorem ZOI {p:El Zc} {l:List Acc} {a:Nat} {C G:Nat→Bool} (hC:∀c,C c=true↔c < l.length∧thA l c≠thA l a∧(clB l a c=true∨∃k,G k=true∧clB l k c=true)) (hG:∀d,G d=true↔∃c,C c=true∧behB p l c d=true)
  (hs:∀d,G d=true→isB p l a d=true) (d:Nat):G d=isB p l a d:=by
 refine ZpC (fun j hj=>?_) (fun k j hk hj=>?_) (fun j hj=>Zci.1 (hs j hj)) d
 ·unfold chS at hj
  simp only[Bool.and_eq_true,decide_eq_true_eq] at hj
  exact (hG j).2 ⟨j,(hC j).2 ⟨hj.1,fun e=>ZOb hj.2 e.symm,.inl hj.2⟩,ZF5 hj.1⟩
 ·unfold chB at hj
  simp only[Bool.and_eq_true,decide_eq_true_eq,Bool.not_eq_true',beq_eq_false_iff_ne,Bool.or_eq_true] at hj
  obtain ⟨h1,h2,h3⟩:=hj
  rcases h3 with h3 | h3
  ·exact (hG j).2 ⟨j,(hC j).2 ⟨h1,h2,.inr ⟨k,hk,h3⟩⟩,ZF5 h1⟩
  ·obtain ⟨c,hc,hb⟩:=(hG k).1 hk
   exact (hG j).2 ⟨c,hc,ZLn hb h3⟩
variable {s:Int×List (Int×Int)} {n:Nat} {M:Nat→Bool}
theorem SetOK.putO (h:SetOK s n M) (hn:n < 4611686018427387904) {j:Nat} (hj:j < n):(putS s (j:Int)).1=(!M j)∧SetOK (putS s (j:Int)).2 n (fun k=>M k || (k==j)):=by
 cases hb:M j with
 | false=>
  obtain ⟨p1,p2⟩:=h.put hn hj hb
  exact ⟨p1,p2⟩
 | true=>
  rw[h.put_no hn (i:=(j:Int)) fun hh=>by rw[Int.toNat_natCast,hb] at hh;cases hh.2.2]
  refine ⟨rfl,?_⟩
  rw[show (fun k=>M k || (k==j))=M from funext fun k=>by
   by_cases hk:k=j
   ·subst hk;rw[hb];rfl
   ·have:(k==j)=false:=by simp;omega
    rw[this,Bool.or_false]]
  exact h
theorem SetOK.congr' {M':Nat→Bool} (h:SetOK s n M) (e:∀j,M j=M' j):SetOK s n M':=by rwa[show M'=M from funext fun j=>(e j).symm]
def listR (n:Nat) (M:Nat→Bool) (h:Nat):List Int:=((List.range' h (n - h)).filter M).map Int.ofNat
theorem ZLb:listR n M 0=listOf n M:=by unfold listR listOf;rw[List.range_eq_range',Nat.sub_zero]
theorem ZMa:listR n M n=[]:=by unfold listR;rw[Nat.sub_self];rfl
theorem ZB1 {h:Nat} (hh:h < n):listR n M h=if M h=true then (h:Int) :: listR n M (h+1) else listR n M (h+1):=by
 unfold listR
 rw[show n - h=(n - (h+1))+1 by omega,List.range'_succ,List.filter_cons]
 split <;> rfl
end Go.Ev
end

section
namespace Go.Ev
open Go
theorem ZAj {t:Nat} {a:El Zb} :∀ {l:List (El Za)} {k:Nat},a∈accT t k l↔∃(j:Nat) (i:El Za),l[j]? =some i∧a∈accI t (k+j) i
 | [],k=>by simp[accT]
 | i :: r,k=>by
  unfold accT
  rw[List.mem_append,ZAj (l:=r)]
  constructor
  ·rintro (h | ⟨j,i',h1,h2⟩)
   ·exact ⟨0,i,rfl,h⟩
   ·exact ⟨j+1,i',by simpa using h1,by rw[show k+(j+1)=k+1+j by omega];exact h2⟩
  ·rintro ⟨j,i',h1,h2⟩
   cases j with
   | zero=>left;simp at h1;subst h1;exact h2
   | succ j=>right;exact ⟨j,i',by simpa using h1,by rw[show k+1+j=k+(j+1) by omega];exact h2⟩
theorem ZMh {t k:Nat} {i:El Za} {a:El Zb} :a∈accI t k i↔((ZaJ i).2=true∧a=((t:Int),((k:Int),((0:Int),((ZaJ i).1.2.2.1,(false,Zaj i))))))∨((Zak i).2=true∧a=((t:Int),((k:Int),((if (ZaJ i).2 then (1:Int) else 0),((Zak i).1.2.2.1,(true,Zaj i)))))):=by
 unfold accI
 rw[List.mem_append]
 cases (ZaJ i).2 <;> cases (Zak i).2 <;> simp
theorem Zu8 {t k:Nat} {i:El Za} {a:El Zb} (h:a∈accI t k i):(show Int from a.1)=(t:Int)∧(show Int from a.2.1)=(k:Int):=by
 rcases ZMh.1 h with ⟨_,rfl⟩ | ⟨_,rfl⟩ <;> exact ⟨rfl,rfl⟩
theorem Zz5 {a:El Zb} :∀ {l:List (List (El Za))} {t:Nat},a∈accP t l↔∃(u:Nat) (x:List (El Za)) (j:Nat) (i:El Za),l[u]? =some x∧x[j]? =some i∧a∈accI (t+u) j i
 | [],t=>by simp[accP]
 | x :: r,t=>by
  unfold accP
  rw[List.mem_append,ZAj,Zz5 (l:=r)]
  constructor
  ·rintro (⟨j,i,h1,h2⟩ | ⟨u,y,j,i,h1,h2,h3⟩)
   ·exact ⟨0,x,j,i,rfl,h1,by rw[Nat.zero_add] at h2;exact h2⟩
   ·exact ⟨u+1,y,j,i,by simpa using h1,h2,by rw[show t+(u+1)=t+1+u by omega];exact h3⟩
  ·rintro ⟨u,y,j,i,h1,h2,h3⟩
   cases u with
   | zero=>
    left
    simp at h1
    subst h1
    exact ⟨j,i,h2,by rw[Nat.zero_add];exact h3⟩
   | succ u=>right;exact ⟨u,y,j,i,by simpa using h1,h2,by rw[show t+1+u=t+(u+1) by omega];exact h3⟩
theorem Zzm {p:El Zc} {a:El Zb} (h:a∈ofC p):∃(u:Nat) (x:List (El Za)) (j:Nat) (i:El Za),p.2[u]? =some x∧x[j]? =some i∧a∈accI u j i∧(show Int from a.1)=(u:Int)∧(show Int from a.2.1)=(j:Int):=by
 unfold ofC at h
 split at h
 ·obtain ⟨u,x,j,i,h1,h2,h3⟩:=Zz5.1 h
  rw[Nat.zero_add] at h3
  exact ⟨u,x,j,i,h1,h2,h3,(Zu8 h3).1,(Zu8 h3).2⟩
 ·cases h
def ltNX (t k q t' k' q':Int):Prop:=t < t'∨t=t'∧(k < k'∨k=k'∧q < q')
def ltAX (a b:El Zb):Prop:=ltNX a.1 a.2.1 a.2.2.1 b.1 b.2.1 b.2.2.1
theorem ZLV (t k:Nat) (i:El Za):(accI t k i).Pairwise ltAX:=by
 unfold accI
 cases (ZaJ i).2 <;> cases (Zak i).2 <;> simp[List.pairwise_cons]
 exact .inr ⟨rfl,.inr ⟨rfl,by show (0:Int) < 1;omega⟩⟩
theorem ZKE {t:Nat} {l:List (El Za)} {k:Nat} {a:El Zb} (h:a∈accT t k l):∃(j:Nat) (i:El Za),l[j]? =some i∧a∈accI t (k+j) i∧(show Int from a.1)=(t:Int)∧(show Int from a.2.1)=((k+j:Nat):Int):=by
 obtain ⟨j,i,h1,h2⟩:=ZAj.1 h
 exact ⟨j,i,h1,h2,Zu8 h2⟩
theorem ZHd (t:Nat):∀(k:Nat) (l:List (El Za)),(accT t k l).Pairwise ltAX
 | _,[]=>.nil
 | k,i :: r=>by
  unfold accT
  refine List.pairwise_append.2 ⟨ZLV t k i,ZHd t (k+1) r,fun a ha b hb=>?_⟩
  obtain ⟨h1,h2⟩:=Zu8 ha
  obtain ⟨j,_,_,_,h3,h4⟩:=ZKE hb
  have key:∀a1 a2 a3 b1 b2 b3:Int,a1=t→a2=k→b1=t→b2=((k+1+j:Nat):Int)→ltNX a1 a2 a3 b1 b2 b3:=fun a1 a2 a3 b1 b2 b3 e1 e2 e3 e4=>.inr ⟨by omega,.inl (by omega)⟩
  exact key _ _ _ _ _ _ h1 h2 h3 h4
theorem ZHt:∀(t:Nat) (l:List (List (El Za))),(accP t l).Pairwise ltAX
 | _,[]=>.nil
 | t,x :: r=>by
  unfold accP
  refine List.pairwise_append.2 ⟨ZHd t 0 x,ZHt (t+1) r,fun a ha b hb=>?_⟩
  obtain ⟨_,_,_,_,h1,_⟩:=ZKE ha
  obtain ⟨u,_,_,_,_,_,hb3⟩:=Zz5.1 hb
  have h3:=(Zu8 hb3).1
  have key:∀a1 a2 a3 b1 b2 b3:Int,a1=t→b1=((t+1+u:Nat):Int)→ltNX a1 a2 a3 b1 b2 b3:=fun a1 a2 a3 b1 b2 b3 e1 e3=>.inl (by omega)
  exact key _ _ _ _ _ _ h1 h3
theorem ZM8 (p:El Zc):(ofC p).Pairwise ltAX:=by
 unfold ofC
 split
 ·exact ZHt 0 p.2
 ·exact .nil
theorem ZnB {t:List (El Za)} (h:smallThread t=true):flowOK t=true:=by
 have labs:∀ {t:List (El Za)} {i:El Za},i∈t→i.2.2.2.2.2.2.length≤(labels t).length:=fun {t i} hi=>by
  unfold labels
  induction t with
  | nil=>cases hi
  | cons x r ih=>
   rw[List.flatMap_cons,List.length_append]
   rcases List.mem_cons.1 hi with rfl | hi
   ·omega
   ·have:=ih hi;omega
 unfold smallThread at h
 simp only[Bool.and_eq_true,List.all_eq_true,decide_eq_true_eq] at h
 unfold flowOK
 simp only[Bool.and_eq_true,List.all_eq_true,decide_eq_true_eq]
 refine ⟨h.1,fun i hi=>⟨(h.2.2 i hi).1,?_⟩⟩
 have:=labs hi
 omega
end Go.Ev
end

section
open Go
namespace Go.Ev
theorem ZtI (l:List Acc) (i j:Nat):Zg3 (accA l i) (accA l j)=clB l i j:=rfl
theorem Zf7 {p:El Zc} (h:smallAll p=true) {i:Nat} (hi:i < (ofC p).length):
  0≤thA (ofC p) i∧thA (ofC p) i < (p.2.length:Int)∧flowOK (thrOf p (ofC p) i)=true∧0≤inA (ofC p) i∧inA (ofC p) i < ((thrOf p (ofC p) i).length:Int):=by
 have hA:=smallA h
 have hm:accA (ofC p) i∈ofC p:=by unfold accA;rw[ZH hi];exact List.getElem_mem hi
 obtain ⟨u,x,j,y,h1,h2,h3,h4,h5⟩:=Zzm hm
 have hth:thA (ofC p) i=(u:Int):=h4
 have hin:inA (ofC p) i=(j:Int):=h5
 have hu:=(List.getElem?_eq_some_iff.1 h1).1
 have hj:=(List.getElem?_eq_some_iff.1 h2).1
 have ht:thrOf p (ofC p) i=x:=by
  unfold thrOf
  rw[hth,Int.toNat_natCast,List.getD_eq_getElem?_getD,h1];rfl
 rw[ht]
 exact ⟨by omega,by omega,ZnB (hA.thr x (List.mem_of_getElem? h1)),by omega,by omega⟩
theorem ZOm {p:El Zc} {i k:Nat} (hi:i < (ofC p).length) (hk:k < (ofC p).length) (e:accA (ofC p) i=accA (ofC p) k):i=k:=by
 have ho:=List.pairwise_iff_getElem.1 (ZM8 p)
 have gi:accA (ofC p) i=(ofC p)[i]:=by unfold accA;rw[ZH hi]
 have gk:accA (ofC p) k=(ofC p)[k]:=by unfold accA;rw[ZH hk]
 have irr:∀a:El Zb,¬ltAX a a:=fun a h=>by
  have:∀t k q:Int,¬ltNX t k q t k q:=fun t k q h=>by
   rcases h with h | ⟨_,h | ⟨_,h⟩⟩ <;> omega
  exact this _ _ _ h
 rw[gi,gk] at e
 by_cases h:i=k
 ·exact h
 ·exfalso
  by_cases hl:i < k
  ·have:=ho i k hi hk hl
   rw[e] at this
   exact irr _ this
  ·have:=ho k i hk hi (by omega)
   rw[←e] at this
   exact irr _ this
theorem ZLj {p:El Zc} (h:smallAll p=true) {i k:Nat} (hi:i < (ofC p).length) (hk:k < (ofC p).length):
  Zed p (accA (ofC p) i) (accA (ofC p) k)=true∧ZdS p (accA (ofC p) i) (accA (ofC p) k)=behB p (ofC p) i k:=by
 obtain ⟨i0,i1,i2,i3,i4⟩:=Zf7 h hi
 obtain ⟨k0,k1,k2,k3,k4⟩:=Zf7 h hk
 have hinj:=fun e=>ZOm hi hk e
 have a1:(accA (ofC p) i).1=thA (ofC p) i:=rfl
 have a2:(accA (ofC p) i).2.1=inA (ofC p) i:=rfl
 have a3:(accA (ofC p) i).2.2.1=paA (ofC p) i:=rfl
 have b1:(accA (ofC p) k).1=thA (ofC p) k:=rfl
 have b2:(accA (ofC p) k).2.1=inA (ofC p) k:=rfl
 have b3:(accA (ofC p) k).2.2.1=paA (ofC p) k:=rfl
 have ht:List.getD p.2 (Int.toNat (thA (ofC p) i)) (dflt (.sl Za))=thrOf p (ofC p) i:=rfl
 have kf:Zb8 (thrOf p (ofC p) i) (inA (ofC p) i)=true:=i2
 have vf:Zan (thrOf p (ofC p) i) (inA (ofC p) i)=rowOf (thrOf p (ofC p) i).length (fromB (thrOf p (ofC p) i) (inA (ofC p) i)):=rfl
 have htri:(decide ((0:Int)≤thA (ofC p) i)&&decide (thA (ofC p) i < Int.ofNat p.2.length))=true:=by
  rw[Bool.and_eq_true,decide_eq_true_eq,decide_eq_true_eq];exact ⟨i0,i1⟩
 unfold Zed ZdS behB
 rw[decide_eq_true hk,Bool.true_and]
 simp only[a1,a2,a3,b1,b2,b3,ht,kf,vf,htri,cond_true,ZJ]
 by_cases e1:thA (ofC p) i=thA (ofC p) k
 ·have htk:thrOf p (ofC p) k=thrOf p (ofC p) i:=by unfold thrOf;rw[e1]
  rw[htk] at k4
  have hbr:(decide ((0:Int)≤inA (ofC p) k)&&decide (inA (ofC p) k < Int.ofNat (thrOf p (ofC p) i).length))=true:=by
   rw[Bool.and_eq_true,decide_eq_true_eq,decide_eq_true_eq];exact ⟨k3,k4⟩
  have hrow:List.getD (rowOf (thrOf p (ofC p) i).length (fromB (thrOf p (ofC p) i) (inA (ofC p) i))) (inA (ofC p) k).toNat (dflt .bool)=fromB (thrOf p (ofC p) i) (inA (ofC p) i) (inA (ofC p) k).toNat:=Zbv (by omega)
  have hb2:decide (inA (ofC p) k < Int.ofNat (thrOf p (ofC p) i).length)=true:=decide_eq_true k4
  simp only[hb2,hrow,cond_true,e1,bne_self_eq_false,beq_self_eq_true,cond_false,Bool.true_and,decide_eq_true k3]
  by_cases e2:k=i
  ·subst e2
   simp
  ·have hne:accA (ofC p) i≠accA (ofC p) k:=fun e=>e2 (hinj e).symm
   have hstr:((accA (ofC p) i).2.1==(accA (ofC p) k).2.1&&((accA (ofC p) i).2.2.1==(accA (ofC p) k).2.2.1&&((accA (ofC p) i).2.2.2.1==(accA (ofC p) k).2.2.2.1&&((accA (ofC p) i).2.2.2.2.1==(accA (ofC p) k).2.2.2.2.1&&(accA (ofC p) i).2.2.2.2.2==(accA (ofC p) k).2.2.2.2.2))))=false:=by
    rw[←Bool.not_eq_true]
    simp only[Bool.and_eq_true,beq_iff_eq]
    rintro ⟨h1,h2,h3,h4,h5⟩
    exact hne (Prod.ext e1 (Prod.ext h1 (Prod.ext h2 (Prod.ext h3 (Prod.ext h4 h5)))))
   rw[a2,a3,b2,b3] at hstr
   have e2b:(k==i)=false:=by simpa using e2
   simp only[hstr,e2b,cond_false,Bool.false_or]
   by_cases e3:inA (ofC p) i=inA (ofC p) k
   ·rw[e3]
    simp only[beq_self_eq_true,cond_true,Bool.true_and]
    cases hq:decide (paA (ofC p) k > paA (ofC p) i) <;> simp
   ·have e3b:(inA (ofC p) i==inA (ofC p) k)=false:=by simpa using e3
    have e3c:(inA (ofC p) k==inA (ofC p) i)=false:=by simpa using fun e=>e3 e.symm
    simp only[e3b,e3c,cond_false,Bool.false_and,Bool.false_or,and_self]
 ·have e1b:(thA (ofC p) i !=thA (ofC p) k)=true:=by simpa using e1
  have e1c:(thA (ofC p) k==thA (ofC p) i)=false:=by simpa using fun e=>e1 e.symm
  simp only[e1b,e1c,cond_true,Bool.false_and,and_self]
end Go.Ev
end

section
open Go
namespace Go.Ev
noncomputable def ZcL (p:El Zc) (l:List (El Zb)) (a:Int):List Bool:=rowOf l.length fun b=>decide (0≤a∧a < (l.length:Int))&&backB p l a.toNat b
def Zh5 (p:El Zc) (l:List (El Zb)) (a:Int):Bool:=smallAll p&&same (.sl Zb) l (ofC p)
theorem ZNT {P:Nat→Bool} {k:Nat} :(List.range (k+1)).any P=((List.range k).any P || P k):=by
 rw[List.range_succ,List.any_append];simp
theorem ZJ1 (p:El Zc) (l:List (El Zb)) (a:Int) (hk:Zh5 p l a=true):Goes (ZaU p l a) (Zqo p l a) (ZcL p l a):=by
 unfold Zh5 at hk
 rw[Bool.and_eq_true] at hk
 obtain ⟨hs,hsame⟩:=hk
 have hl:=ZKd.1 hsame
 have hN:=ZLG hs
 rw[←hl] at hN
 have hfol:∀i k,i < l.length→k < l.length→Zed p (accA l i) (accA l k)=true∧ZdS p (accA l i) (accA l k)=behB p l i k:=fun i k hi hk=>by
  rw[hl] at*
  exact ZLj hs hi hk
 have hmk:((((Int.ofNat (List.length l))==(Int.ofNat (List.length l)))&&(decide ((0:Int)≤(Int.ofNat (List.length l)))))&&(decide (((Int.ofNat (List.length l))*(1:Int))≤(limit:Int))))=true:=by
  simp[limit];omega
 obtain ⟨n,hn⟩:∃n,l.length=n:=⟨_,rfl⟩
 have none:¬(0≤a∧a < (n:Int))→List.replicate n false=ZcL p l a:=fun h=>by
  unfold ZcL
  rw[hn,ZnA]
  exact Z3 fun i _=>by rw[decide_eq_false h];rfl
 obtain ⟨T,hT⟩:∃T,T=ZaU p l a:=⟨_,rfl⟩
 rw[←hT]
 unfold Zqo
 rw[hn] at hN hfol hmk ⊢
 rw[Ze,if_pos hmk,Ze]
 by_cases h0:a < 0
 ·rw[if_pos (decide_eq_true h0),none (fun h=>by omega)];exact .leaf
 rw[if_neg (by simpa using h0),Ze]
 by_cases h1:a≥Int.ofNat n
 ·rw[if_pos (decide_eq_true h1),none (fun h=>by simp at h1;omega)];exact .leaf
 obtain ⟨a,rfl⟩:=Int.eq_ofNat_of_zero_le (show 0≤a by omega)
 have ha:a < n:=by simp at h1;omega
 rw[if_neg (by simpa using h1),Ze,if_pos hmk]
 have hval:ZcL p l (a:Int)=rowOf n (backB p l a):=by
  unfold ZcL
  rw[hn]
  exact Z3 fun i _=>by rw[decide_eq_true ⟨by omega,by omega⟩,Int.toNat_natCast];rfl
 rw[hval]
 have ea:List.getD l a (dflt Zb)=accA l a:=rfl
 have nn:(List.length l)=n:=hn
 have out:Goes T (.jmp (.l31 (rowOf n (isB p l a)) (0:Int) (List.replicate n false))) (rowOf n (backB p l a)):=by
  have outer:∀i,i≤n→Goes T (.jmp (.l31 (rowOf n (isB p l a)) (i:Int) (rowOf n fun j=>decide (j < i)&&backB p l a j))) (rowOf n (backB p l a)):=by
   refine down ?_ fun i hi ih=>?_
   ·rw[Zi,hT,ZaU,←hT,Ze,nn,if_neg (by simp)]
    rw[show (rowOf n fun j=>decide (j < n)&&backB p l a j)=rowOf n (backB p l a) from Z3 fun j hj=>by rw[decide_eq_true hj];rfl]
    exact .leaf
   ·have inner:∀k,k≤n→thA l i=thA l a→Goes T (.jmp (.l36 (rowOf n (isB p l a)) (k:Int) (rowOf n fun j=>if j=i then (List.range k).any (fun q=>isB p l a q&&clB l q i) else decide (j < i)&&backB p l a j) (i:Int))) (rowOf n (backB p l a)):=by
     refine down ?_ fun k hk ih2=>?_
     ·intro ht
      rw[Zi,hT,ZaU,←hT,Ze,nn,if_neg (by simp),Zr (by omega)]
      rw[show (rowOf n fun j=>if j=i then (List.range n).any (fun q=>isB p l a q&&clB l q i) else decide (j < i)&&backB p l a j)=(rowOf n fun j=>decide (j < i+1)&&backB p l a j) from Z3 fun j hj=>by
       by_cases e:j=i
       ·subst e
        rw[if_pos rfl,decide_eq_true (by omega),Bool.true_and]
        unfold backB
        rw[ht,beq_self_eq_true,Bool.true_and,hn]
       ·rw[if_neg e]
        by_cases e2:j < i
        ·rw[decide_eq_true e2,decide_eq_true (by omega)]
        ·rw[decide_eq_false e2,decide_eq_false (by omega)]]
      exact ih
     ·intro ht
      have hrow:∀M:Nat→Bool,List.getD (rowOf n M) i (dflt .bool)=M i:=fun M=>Zbv hi
      have hrk:List.getD (rowOf n (isB p l a)) k (dflt .bool)=isB p l a k:=Zbv hk
      have et:((accA l i).1==(accA l a).1)=true:=by show (thA l i==thA l a)=true;rw[ht];simp
      have ei:List.getD l i (dflt Zb)=accA l i:=rfl
      have ek:List.getD l k (dflt Zb)=accA l k:=rfl
      have lt1:∀ {x:Nat},x < n→decide ((x:Int) < Int.ofNat n)=true:=fun h=>decide_eq_true (by simpa using h)
      have key:∀b,b=((List.range (k+1)).any fun q=>isB p l a q&&clB l q i)→Goes T (.jmp (.l36 (rowOf n (isB p l a)) ((k+1:Nat):Int) ((rowOf n fun j=>if j=i then (List.range k).any (fun q=>isB p l a q&&clB l q i) else decide (j < i)&&backB p l a j).set i b) (i:Int))) (rowOf n (backB p l a)):=fun b hb=>by
       rw[ZyQ,show (rowOf n fun j=>if j=i then b else if j=i then (List.range k).any (fun q=>isB p l a q&&clB l q i) else decide (j < i)&&backB p l a j)=(rowOf n fun j=>if j=i then (List.range (k+1)).any (fun q=>isB p l a q&&clB l q i) else decide (j < i)&&backB p l a j) from Z3 fun j _=>by
        by_cases e:j=i
        ·rw[if_pos e,if_pos e,hb]
        ·rw[if_neg e,if_neg e,if_neg e]]
       exact ih2 ht
      rw[ZNT] at key
      rw[Zi,hT,ZaU,←hT]
      simp only[Ze,nn,ZJ,lt1 hk,lt1 hi,lt1 ha,nng,Bool.and_self,if_true,Int.toNat_natCast,ei,ek,ea,et,hrow,hrk,ZtI,Zr (k:=k) (by omega)]
      generalize hq:((List.range k).any fun q=>isB p l a q&&clB l q i)=q at*
      cases q with
      | true=>
       rw[if_pos rfl]
       exact key true (by simp)
      | false=>
       rw[if_neg (by decide)]
       cases hb:isB p l a k with
       | true=>
        rw[if_pos rfl]
        exact key _ (by rw[hb];simp)
       | false=>
        rw[if_neg (by decide)]
        exact key false (by rw[hb];simp)
    rw[Zi,hT,ZaU,←hT,Ze,nn,if_pos (decide_eq_true (by simpa using hi))]
    by_cases ht:thA l i=thA l a
    ·have:=inner 0 (Nat.zero_le _) ht
     rw[show (rowOf n fun j=>if j=i then (List.range 0).any (fun q=>isB p l a q&&clB l q i) else decide (j < i)&&backB p l a j)=(rowOf n fun j=>decide (j < i)&&backB p l a j) from Z3 fun j _=>by
      by_cases e:j=i
      ·subst e;simp
      ·rw[if_neg e]] at this
     exact this
    ·have lt1:∀ {x:Nat},x < n→decide ((x:Int) < Int.ofNat n)=true:=fun h=>decide_eq_true (by simpa using h)
     have et:((accA l i).1==(accA l a).1)=false:=by show (thA l i==thA l a)=false;simpa using ht
     have ei:List.getD l i (dflt Zb)=accA l i:=rfl
     have hlt0:decide ((0:Int) < Int.ofNat n)=true:=decide_eq_true (by simp;omega)
     rw[Zi,hT,ZaU,←hT]
     simp only[Ze,nn,hlt0,lt1 hi,lt1 ha,nng,Bool.and_self,if_true,Int.toNat_natCast,ei,ea,et,Bool.false_eq_true,if_false,Zr (k:=i) (by omega)]
     rw[show (rowOf n fun j=>decide (j < i)&&backB p l a j)=(rowOf n fun j=>decide (j < i+1)&&backB p l a j) from Z3 fun j _=>by
      by_cases e:j=i
      ·subst e
       have:backB p l a j=false:=by unfold backB;rw[show (thA l j==thA l a)=false by simpa using ht];rfl
       rw[this,Bool.and_false,Bool.and_false]
      ·by_cases e2:j < i
       ·rw[decide_eq_true e2,decide_eq_true (by omega)]
       ·rw[decide_eq_false e2,decide_eq_false (by omega)]]
     exact ih
  have:=outer 0 (Nat.zero_le _)
  rw[show (rowOf n fun j=>decide (j < 0)&&backB p l a j)=List.replicate n false from by
   rw[ZnA];exact Z3 fun j _=>by simp] at this
  exact this
 let OK:(Nat→Bool)→(Nat→Bool)→Bool→Prop:=fun M0 M moved=>(∀j,chS l a j=true→M j=true)∧(∀j,M j=true→Come (chB p l a) (chS l a) j)∧(moved=false→M=M0)∧(moved=true→card n M0 < card n M)
 have lt1:∀ {x:Nat},x < n→decide ((x:Int) < Int.ofNat n)=true:=fun h=>decide_eq_true (by simpa using h)
 have hMlt:∀ {M:Nat→Bool},(∀j,M j=true→Come (chB p l a) (chS l a) j)→∀j,M j=true→j < n:=fun h j hj=>by
  have:=ZOY (p:=p) (l:=l) (a:=a) (Zci.2 (h j hj))
  omega
 have loop:∀m,∀M:Nat→Bool,n - card n M=m→(∀j,chS l a j=true→M j=true)→(∀j,M j=true→Come (chB p l a) (chS l a) j)→Goes T (.jmp (.l14 (rowOf n M) true)) (rowOf n (backB p l a)):=by
  intro m
  induction m using Nat.strongRecOn with
  | _ m ih=>
  intro M0 hm hA hC
  have inner:∀i,i < n→∀Z:Prop,(∀M moved,OK M0 M moved→(moved=false→Z∧(M0 i=true→∀j,chB p l a i j=true→M0 j=true))→Goes T (.jmp (.l19 (rowOf n M) ((i+1:Nat):Int) moved)) (rowOf n (backB p l a)))→
    ∀k,k≤n→∀M moved,OK M0 M moved→(moved=false→Z∧∀x,x < k→M0 i=true→chB p l a i x=true→M0 x=true)→Goes T (.jmp (.l24 (rowOf n M) moved (k:Int) (i:Int))) (rowOf n (backB p l a)):=by
   intro i hi Z hz
   refine down ?_ fun k hk ih2=>?_
   ·intro M moved hok hcl
    rw[Zi,hT,ZaU,←hT,Ze,nn,if_neg (by simp),Zr (by omega)]
    refine hz M moved hok fun hm=>⟨(hcl hm).1,fun h1 j hj=>(hcl hm).2 j ?_ h1 hj⟩
    unfold chB at hj
    simp only[Bool.and_eq_true,decide_eq_true_eq] at hj
    omega
   ·intro M moved hok hcl
    obtain ⟨f1,f2⟩:=hfol i k hi hk
    have hri:List.getD (rowOf n M) i (dflt .bool)=M i:=Zbv hi
    have hrk:List.getD (rowOf n M) k (dflt .bool)=M k:=Zbv hk
    have ei:List.getD l i (dflt Zb)=accA l i:=rfl
    have ek:List.getD l k (dflt Zb)=accA l k:=rfl
    have tk:(accA l k).1=thA l k:=rfl
    have ta:(accA l a).1=thA l a:=rfl
    rw[Zi,hT,ZaU,←hT]
    simp only[Ze,nn,ZJ,lt1 hk,lt1 hi,lt1 ha,nng,Bool.and_self,if_true,Int.toNat_natCast,ei,ek,ea,hri,hrk,ZtI,f1,f2,tk,ta,Zr (k:=k) (by omega),Zr (k:=i) (by omega)]
    cases hMi:M i with
    | false=>
     rw[if_neg (by decide)]
     refine hz M moved hok fun hm=>⟨(hcl hm).1,fun h1=>?_⟩
     rw[←hok.2.2.1 hm,hMi] at h1;cases h1
    | true=>
     rw[if_pos rfl]
     cases hMk:M k with
     | true=>
      rw[if_neg (by decide)]
      refine ih2 M moved hok fun hm=>⟨(hcl hm).1,fun x hx h1 h2=>?_⟩
      by_cases e:x=k
      ·subst e;rw[←hok.2.2.1 hm];exact hMk
      ·exact (hcl hm).2 x (by omega) h1 h2
     | false=>
      rw[if_pos (by decide)]
      have skip:chB p l a i k=false→Goes T (.jmp (.l24 (rowOf n M) moved ((k+1:Nat):Int) (i:Int))) (rowOf n (backB p l a)):=fun hc=>ih2 M moved hok fun hm=>⟨(hcl hm).1,fun x hx h1 h2=>by
       by_cases e:x=k
       ·subst e;rw[hc] at h2;cases h2
       ·exact (hcl hm).2 x (by omega) h1 h2⟩
      have set:chB p l a i k=true→Goes T (.jmp (.l24 ((rowOf n M).set k true) true ((k+1:Nat):Int) (i:Int))) (rowOf n (backB p l a)):=fun hc=>by
       have hca:=Zmm hMk hk
       rw[ZqW]
       refine ih2 _ true ⟨fun x hx=>(show (M x || (x==k))=true by rw[hok.1 x hx];rfl),fun x hx=>?_,fun h=>(by cases h),fun _=>?_⟩ (fun h=>by cases h)
       ·simp only[Bool.or_eq_true,beq_iff_eq] at hx
        rcases hx with hx | hx
        ·exact hok.2.1 x hx
        ·subst hx;exact .step (hok.2.1 i hMi) hc
       ·cases moved with
        | true=>have:=hok.2.2.2 rfl;omega
        | false=>rw[hok.2.2.1 rfl] at hca;rw[hok.2.2.1 rfl];omega
      have hce:chB p l a i k=(!(thA l k==thA l a)&&(clB l i k || behB p l i k)):=by unfold chB;rw[hn,decide_eq_true hk,Bool.true_and]
      by_cases c1:thA l k=thA l a
      ·rw[if_neg (by simp[c1])]
       exact skip (by rw[hce];simp[c1])
      ·rw[if_pos (by simpa using c1)]
       have c1b:(thA l k==thA l a)=false:=by simpa using c1
       rw[c1b] at hce
       cases c2:clB l i k with
       | true=>
        rw[if_pos rfl]
        exact set (by rw[hce,c2];rfl)
       | false=>
        rw[if_neg (by decide)]
        cases c3:behB p l i k with
        | true=>
         rw[if_pos rfl]
         exact set (by rw[hce,c2,c3];rfl)
        | false=>
         rw[if_neg (by decide)]
         exact skip (by rw[hce,c2,c3];rfl)
  have pass:∀i,i≤n→∀M moved,OK M0 M moved→(moved=false→∀i' j,i' < i→M0 i'=true→chB p l a i' j=true→M0 j=true)→Goes T (.jmp (.l19 (rowOf n M) (i:Int) moved)) (rowOf n (backB p l a)):=by
   refine down ?_ fun i hi ih2=>?_
   ·intro M moved hok hcl
    rw[Zi,hT,ZaU,←hT,Ze,nn,if_neg (by simp)]
    cases moved with
    | true=>
     have h1:=hok.2.2.2 rfl
     have h2:= @Zfe n M
     exact ih (n - card n M) (by omega) M rfl hok.1 hok.2.1
    | false=>
     have e:=hok.2.2.1 rfl
     subst e
     rw[Zi,hT,ZaU,←hT,Ze,if_neg (by decide),nn]
     rw[show rowOf n M=rowOf n (isB p l a) from Z3 fun j _=>ZpC hok.1 (fun k j hk hj=>hcl rfl k j (hMlt hok.2.1 k hk) hk hj) hok.2.1 j]
     exact out
   ·intro M moved hok hcl
    rw[Zi,hT,ZaU,←hT,Ze,nn,if_pos (lt1 hi)]
    refine inner i hi (∀i' j,i' < i→M0 i'=true→chB p l a i' j=true→M0 j=true) (fun M' moved' hok' hcl'=>ih2 M' moved' hok' fun hm i' j hi' h1 hj=>?_) 0 (Nat.zero_le _) M moved hok (fun hm=>⟨hcl hm,fun x hx=>by omega⟩)
    by_cases e:i'=i
    ·subst e;exact (hcl' hm).2 h1 j hj
    ·exact (hcl' hm).1 i' j (by omega) h1 hj
  rw[Zi,hT,ZaU,←hT,Ze,if_pos rfl]
  exact pass 0 (Nat.zero_le _) M0 false ⟨hA,hC,fun _=>rfl,fun h=>by cases h⟩ fun _ i' j h=>by omega
 have start:∀i,i≤n→Goes T (.jmp (.l8 (i:Int) (rowOf n fun j=>decide (j < i)&&chS l a j))) (rowOf n (backB p l a)):=by
  refine down ?_ fun i hi ih=>?_
  ·rw[Zi,hT,ZaU,←hT,Ze,nn,if_neg (by simp)]
   rw[show (rowOf n fun j=>decide (j < n)&&chS l a j)=rowOf n (chS l a) from Z3 fun j hj=>by rw[decide_eq_true hj];rfl]
   exact loop _ (chS l a) rfl (fun j h=>h) (fun j h=>.start h)
  ·have ei:List.getD l i (dflt Zb)=accA l i:=rfl
   rw[Zi,hT,ZaU,←hT]
   simp only[Ze,nn,ZJ,lt1 hi,lt1 ha,nng,Bool.and_self,if_true,Int.toNat_natCast,ei,ea,ZtI,Zr (k:=i) (by omega)]
   rw[ZyQ,show (rowOf n fun j=>if j=i then clB l a i else decide (j < i)&&chS l a j)=(rowOf n fun j=>decide (j < i+1)&&chS l a j) from Z3 fun j hj=>by
    by_cases e:j=i
    ·subst e
     rw[if_pos rfl,decide_eq_true (by omega),Bool.true_and]
     unfold chS
     rw[hn,decide_eq_true hj,Bool.true_and]
    ·rw[if_neg e]
     by_cases e2:j < i
     ·rw[decide_eq_true e2,decide_eq_true (by omega)]
     ·rw[decide_eq_false e2,decide_eq_false (by omega)]]
   exact ih
 have:=start 0 (Nat.zero_le _)
 rw[show (rowOf n fun j=>decide (j < 0)&&chS l a j)=List.replicate n false from by
  rw[ZnA];exact Z3 fun j _=>by simp] at this
 exact this
end Go.Ev
end

section
open Go Go.Ev
namespace Go.Ev
noncomputable section
noncomputable def ZAs:Run:=entG ZgN Zos (fun a=>Zh5 a.1 a.2.1 a.2.2.1) (fun a=>ZcL a.1 a.2.1 a.2.2.1)
theorem ZHL:EntOK Go.Proofs.Tryz.prog 30 ZAs:=ZM (tb:=ZrP) (c:=Zp7) ZGD (by kernel_rfl) (by kernel_rfl) (by kernel_rfl) (fun a=>by kernel_rfl) fun ⟨p,l,a,_⟩ hk=>Zm (c:=Zp7) (K:=fun v=>(Zos v,tps (toForms ZgN (p,l,a,())))) (S:=Zgy p l a) (by kernel_rfl) (ZIh p l a) (ZHk p l a) (ZJ1 p l a hk)
end
end Go.Ev
end

section
open Go Go.Ev
namespace Go.Ev
noncomputable section
def Zee:Sig:=[(true,Zc)]
noncomputable def Zor:Tbl:=[(28,Zq3),(29,Ztt),(30,ZAs)]
theorem ZBQ:∀p∈Zor,EntOK Go.Proofs.Tryz.prog p.1 p.2:=Zg ZxP (Zg Zw6 (Zg ZHL (Zt)))
noncomputable def Zkb:Code:=Go.Proofs.Tryz.f13.body.getD .skip
def ZmU:Tb:=[(5,⟨[1,3,4,5],[(5,56)]⟩),(13,⟨[1,3,4,5,6,7],[(5,56)]⟩)]
inductive ZhZ where | l5 (s:Int) (out:List (El Zd)) | l13 (behind:List Bool) (s:Int) (r:Int) (out:List (El Zd))
def ZbA (p:El Zc):ZhZ→JT ZhZ (List (El Zd)) |.l5 s out=>.br (decide (s < (Int.ofNat (List.length (Zs p))))) (.br ((decide ((0:Int)≤s))&&(decide (s < (Int.ofNat (List.length (Zs p)))))) (.br (! (List.getD (Zs p) (Int.toNat s) (dflt Zb)).2.2.2.2.1) (.jmp (.l5 (IntKind.i64.wrap (s+(1:Int))) out)) (.br ((decide ((0:Int)≤s))&&(decide (s < (Int.ofNat (List.length (Zs p)))))) (.br (List.getD (Zs p) (Int.toNat s) (dflt Zb)).2.2.2.2.2 (.jmp (.l5 (IntKind.i64.wrap (s+(1:Int))) out)) (.br ((decide ((0:Int)≤s))&&(decide (s < (Int.ofNat (List.length (Zs p)))))) (.br ((decide ((0:Int)≤(List.getD (Zs p) (Int.toNat s) (dflt Zb)).1))&&(decide ((List.getD (Zs p) (Int.toNat s) (dflt Zb)).1 < (Int.ofNat (List.length p.2))))) (.br ((decide ((0:Int)≤s))&&(decide (s < (Int.ofNat (List.length (Zs p)))))) (.br (Zb8 (List.getD p.2 (Int.toNat (List.getD (Zs p) (Int.toNat s) (dflt Zb)).1) (dflt (.sl Za))) (List.getD (Zs p) (Int.toNat s) (dflt Zb)).2.1) (.jmp (.l13 (Zan (List.getD p.2 (Int.toNat (List.getD (Zs p) (Int.toNat s) (dflt Zb)).1) (dflt (.sl Za))) (List.getD (Zs p) (Int.toNat s) (dflt Zb)).2.1) s (0:Int) out)) (.no)) (.no)) (.no)) (.no))) (.no))) (.no)) (.leaf out) |.l13 behind s r out=>.br (decide (r < (Int.ofNat (List.length (Zs p))))) (.br ((decide ((0:Int)≤r))&&(decide (r < (Int.ofNat (List.length (Zs p)))))) (.br ((decide ((0:Int)≤s))&&(decide (s < (Int.ofNat (List.length (Zs p)))))) (.br ((List.getD (Zs p) (Int.toNat r) (dflt Zb)).1==(List.getD (Zs p) (Int.toNat s) (dflt Zb)).1) (.br ((decide ((0:Int)≤r))&&(decide (r < (Int.ofNat (List.length (Zs p)))))) (.br (! (List.getD (Zs p) (Int.toNat r) (dflt Zb)).2.2.2.2.1) (.br ((decide ((0:Int)≤r))&&(decide (r < (Int.ofNat (List.length (Zs p)))))) (.br (! (List.getD (Zs p) (Int.toNat r) (dflt Zb)).2.2.2.2.2) (.br ((decide ((0:Int)≤r))&&(decide (r < (Int.ofNat (List.length (Zs p)))))) (.br ((decide ((0:Int)≤(List.getD (Zs p) (Int.toNat r) (dflt Zb)).2.1))&&(decide ((List.getD (Zs p) (Int.toNat r) (dflt Zb)).2.1 < (Int.ofNat (List.length behind))))) (.br (List.getD behind (Int.toNat (List.getD (Zs p) (Int.toNat r) (dflt Zb)).2.1) (dflt .bool)) (.br (Zh5 p (Zs p) r) (.br ((decide ((0:Int)≤s))&&(decide (s < (Int.ofNat (List.length (ZcL p (Zs p) r)))))) (.br (List.getD (ZcL p (Zs p) r) (Int.toNat s) (dflt .bool)) (.br ((decide ((0:Int)≤s))&&(decide (s < (Int.ofNat (List.length (Zs p)))))) (.br ((decide ((0:Int)≤s))&&(decide (s < (Int.ofNat (List.length (Zs p)))))) (.br ((decide ((0:Int)≤r))&&(decide (r < (Int.ofNat (List.length (Zs p)))))) (.br (Nat.ble (((List.length out)+1)*24) limit) (.jmp (.l13 behind s (IntKind.i64.wrap (r+(1:Int))) (out++[((List.getD (Zs p) (Int.toNat s) (dflt Zb)).1,((List.getD (Zs p) (Int.toNat s) (dflt Zb)).2.1,(List.getD (Zs p) (Int.toNat r) (dflt Zb)).2.1))]))) (.no)) (.no)) (.no)) (.no)) (.jmp (.l13 behind s (IntKind.i64.wrap (r+(1:Int))) out))) (.no)) (.no)) (.jmp (.l13 behind s (IntKind.i64.wrap (r+(1:Int))) out))) (.no)) (.no)) (.jmp (.l13 behind s (IntKind.i64.wrap (r+(1:Int))) out))) (.no)) (.jmp (.l13 behind s (IntKind.i64.wrap (r+(1:Int))) out))) (.no)) (.jmp (.l13 behind s (IntKind.i64.wrap (r+(1:Int))) out))) (.no)) (.no)) (.jmp (.l5 (IntKind.i64.wrap (s+(1:Int))) out))
def ZmY (p:El Zc):JT ZhZ (List (El Zd)):=.br (ZhL p) (.jmp (.l5 (0:Int) [])) (.no)
def ZjI:List (El Zd)→AV:=fun (r:List (El Zd))=>.rw 35 Zd r
def Zdt (p:El Zc):ZhZ→Nat×St |.l5 s out=>(5,⟨mkTm 116 [(1,.pt 2 0 0),(3,.own 4 0 none),(4,.own 5 0 none),(5,.d (.int .i64) s)],[(2,0,.box 26 [.d (.sl Zx) p.1,.d (.sl (.sl Za)) p.2] none),(4,0,.row 70 Zb (Zs p) false),(5,0,.row 35 Zd out false)]⟩) |.l13 behind s r out=>(13,⟨mkTm 116 [(1,.pt 2 0 0),(3,.own 4 0 none),(4,.own 5 0 none),(5,.d (.int .i64) s),(6,.own 7 0 none),(7,.d (.int .i64) r)],[(2,0,.box 26 [.d (.sl Zx) p.1,.d (.sl (.sl Za)) p.2] none),(4,0,.row 70 Zb (Zs p) false),(5,0,.row 35 Zd out false),(7,0,.row 4 .bool behind false)]⟩)
theorem ZA6 (p:El Zc) (L:Lt):entryA Go.Proofs.Tryz.prog (clOf Zor) ZmU Go.Proofs.Tryz.f13 Zkb L (toForms Zee (p,()))=(ZmY p).run (fun v=>some (ZjI v,tps (toForms Zee (p,())))) fun j=>L (Zdt p j).1 (Zdt p j).2:=by kernel_rfl
theorem ZBk (p:El Zc):∀(L:Lt) (j:ZhZ),procOf (procsF Go.Proofs.Tryz.prog (clOf Zor) ZmU Go.Proofs.Tryz.f13 Zkb (toForms Zee (p,()))) (Zdt p j).1 L (Zdt p j).2=(ZbA p j).run (fun v=>some (ZjI v,tps (toForms Zee (p,())))) fun j=>L (Zdt p j).1 (Zdt p j).2 | L,.l5 s out=>by kernel_rfl | L,.l13 behind s r out=>by kernel_rfl
end
end Go.Ev
end

section
open Go
namespace Go.Ev
def stB' (l:List Acc) (s:Nat):Bool:=(accA l s).2.2.2.2.1&& ! (accA l s).2.2.2.2.2
def ldB' (l:List Acc) (s:Nat):Bool:=! (accA l s).2.2.2.2.1&& ! (accA l s).2.2.2.2.2
noncomputable def delB (p:El Zc) (l:List Acc) (s r:Nat):Bool:=((thA l r==thA l s)&&ldB' l r)&&(fromB (thrOf p l s) (inA l s) (inA l r).toNat&&backB p l r s)
def delPair (l:List Acc) (s r:Nat):El Zd:=(thA l s,(inA l s,inA l r))
noncomputable def delS (p:El Zc) (l:List Acc) (s:Nat):List (El Zd):=if stB' l s then ((List.range' 0 l.length).filter fun r=>delB p l s r).map (delPair l s) else []
noncomputable def delsFrom (p:El Zc) (l:List Acc) (s:Nat):List (El Zd):=(List.range' s (l.length - s)).flatMap (delS p l)
noncomputable def ZA (p:El Zc):List (El Zd):=delsFrom p (ofC p) 0
def ZbY (p:El Zc):Bool:=smallAll p&&decide ((ofC p).length < 1000000)
theorem ZKA (p:El Zc) (l:List Acc) (s:Nat):(delS p l s).length≤l.length:=by
 unfold delS
 split
 ·rw[List.length_map]
  have:=List.length_filter_le (fun r=>delB p l s r) (List.range' 0 l.length)
  rw[List.length_range'] at this
  exact this
 ·exact Nat.zero_le _
theorem ZEJ (p:El Zc) (hk:ZbY p=true):Goes (ZbA p) (ZmY p) (ZA p):=by
 unfold ZbY at hk
 rw[Bool.and_eq_true] at hk
 obtain ⟨hs,hN⟩:=hk
 have hN:=of_decide_eq_true hN
 have kt:ZhL p=true:=hs
 have vt:Zs p=ofC p:=rfl
 have facts:=fun i=>Zf7 (i:=i) hs
 have same_th:∀i k,thA (ofC p) k=thA (ofC p) i→thrOf p (ofC p) k=thrOf p (ofC p) i:=fun i k h=>by unfold thrOf;rw[h]
 have kb:∀r,Zh5 p (ofC p) r=true:=fun r=>by unfold Zh5;rw[hs,ZKd.2 rfl];rfl
 have vb:∀r:Nat,r < (ofC p).length→ZcL p (ofC p) (r:Int)=rowOf (ofC p).length fun b=>backB p (ofC p) r b:=fun r hr=>by
  unfold ZcL
  rw[Int.toNat_natCast]
  exact Z3 fun i _=>by rw[decide_eq_true ⟨Int.natCast_nonneg r,Int.ofNat_lt.2 hr⟩,Bool.true_and]
 obtain ⟨l,hl⟩:∃l,ofC p=l:=⟨_,rfl⟩
 rw[hl] at hN vt facts kb vb same_th
 have outer:∀s,s≤l.length→∀out:List (El Zd),out.length≤s*l.length→Goes (ZbA p) (.jmp (.l5 (s:Int) out)) (out++delsFrom p l s):=by
  refine down ?_ fun s hsl ih=>?_
  ·intro out ho
   rw[Zi,ZbA,vt,Ze,if_neg (by rw[Zy (Nat.lt_irrefl _)];decide)]
   unfold delsFrom
   rw[Nat.sub_self]
   simp only[List.range'_zero,List.flatMap_nil,List.append_nil]
   exact .leaf
  ·intro out ho
   have e:delsFrom p l s=delS p l s++delsFrom p l (s+1):=by
    unfold delsFrom
    rw[show l.length - s=(l.length - (s+1))+1 by omega,List.range'_succ,List.flatMap_cons]
   have ga:List.getD l s (dflt Zb)=accA l s:=rfl
   have goon:∀o2,o2=out++delS p l s→Goes (ZbA p) (.jmp (.l5 (((s+1:Nat)):Int) o2)) (out++delsFrom p l s):=fun o2 ho2=>by
    have:=ih (out++delS p l s) (by
     rw[List.length_append]
     have:=ZKA p l s
     rw[Nat.add_mul];omega)
    rw[e,←List.append_assoc,ho2]
    exact this
   rw[Zi,ZbA,vt]
   simp only[Ze,ZS hsl,nng,Bool.and_self,if_true,Int.toNat_natCast,ga,Zr (k:=s) (by omega)]
   by_cases c1:(! (accA l s).2.2.2.2.1)=true
   ·rw[if_pos c1]
    refine goon out ?_
    unfold delS stB'
    rw[if_neg (by rw[Bool.not_eq_true'] at c1;rw[c1,Bool.false_and];exact Bool.false_ne_true),List.append_nil]
   rw[if_neg c1]
   by_cases c2:(accA l s).2.2.2.2.2=true
   ·rw[if_pos c2]
    refine goon out ?_
    unfold delS stB'
    rw[if_neg (by rw[c2];simp),List.append_nil]
   rw[if_neg c2]
   have hst:stB' l s=true:=by
    unfold stB'
    cases h1:(accA l s).2.2.2.2.1 <;> cases h2:(accA l s).2.2.2.2.2 <;> simp_all
   have hdel:delS p l s=((List.range' 0 l.length).filter fun r=>delB p l s r).map (delPair l s):=by unfold delS;rw[if_pos hst]
   obtain ⟨t0,t1,hf,i0,i1⟩:=facts s hsl
   have hth:(decide ((0:Int)≤(accA l s).1)&&decide ((accA l s).1 < Int.ofNat p.2.length))=true:=by
    rw[Bool.and_eq_true,decide_eq_true_eq,decide_eq_true_eq];exact ⟨t0,t1⟩
   have kf:Zb8 (List.getD p.2 (Int.toNat (accA l s).1) (dflt (.sl Za))) (accA l s).2.1=true:=hf
   have vf:Zan (List.getD p.2 (Int.toNat (accA l s).1) (dflt (.sl Za))) (accA l s).2.1=rowOf (thrOf p l s).length (fromB (thrOf p l s) (inA l s)):=rfl
   rw[if_pos hth,if_pos kf,vf]
   have inner:∀r,r≤l.length→∀o2:List (El Zd),o2.length≤s*l.length+r→o2++((List.range' r (l.length - r)).filter fun r=>delB p l s r).map (delPair l s)=out++delS p l s→
     Goes (ZbA p) (.jmp (.l13 (rowOf (thrOf p l s).length (fromB (thrOf p l s) (inA l s))) (s:Int) (r:Int) o2)) (out++delsFrom p l s):=by
    refine down ?_ fun r hr ih2=>?_
    ·intro o2 ho2 he
     rw[Zi,ZbA,vt,Ze,if_neg (by rw[Zy (Nat.lt_irrefl _)];decide),Zr (by omega)]
     rw[Nat.sub_self] at he
     simp only[List.range'_zero,List.filter_nil,List.map_nil,List.append_nil] at he
     exact goon o2 he
    ·intro o2 ho2 he
     have hprod:s*l.length≤1000000*1000000:=Nat.mul_le_mul (by omega) (by omega)
     have b1:Nat.ble ((o2.length+1)*24) limit=true:=Nat.ble_eq_true_of_le (by unfold limit;omega)
     have gr:List.getD l r (dflt Zb)=accA l r:=rfl
     rw[show l.length - r=(l.length - (r+1))+1 by omega,List.range'_succ,List.filter_cons] at he
     have next:∀o3,delB p l s r=false→o3=o2→Goes (ZbA p) (.jmp (.l13 (rowOf (thrOf p l s).length (fromB (thrOf p l s) (inA l s))) (s:Int) ((r+1:Nat):Int) o3)) (out++delsFrom p l s):=fun o3 hd h3=>by
      subst h3
      rw[if_neg (by rw[hd];decide)] at he
      exact ih2 o3 (by omega) he
     rw[Zi,ZbA,vt]
     simp only[Ze,ZS hr,ZS hsl,nng,Bool.and_self,if_true,Int.toNat_natCast,ga,gr,b1,Zr (k:=r) (by omega)]
     by_cases d1:((accA l r).1==(accA l s).1)=true
     ·rw[if_pos d1]
      by_cases d2:(! (accA l r).2.2.2.2.1)=true
      ·rw[if_pos d2]
       by_cases d3:(! (accA l r).2.2.2.2.2)=true
       ·rw[if_pos d3]
        have eth:thA l r=thA l s:=by simpa[thA] using d1
        obtain ⟨_,_,_,j0,j1⟩:=facts r hr
        rw[same_th s r eth] at j1
        have hin:(decide ((0:Int)≤(accA l r).2.1)&&decide ((accA l r).2.1 < Int.ofNat (rowOf (thrOf p l s).length (fromB (thrOf p l s) (inA l s))).length))=true:=by
         rw[ZJ,Bool.and_eq_true,decide_eq_true_eq,decide_eq_true_eq];exact ⟨j0,j1⟩
        have hin':(inA l r).toNat < (thrOf p l s).length:=by omega
        have hg:List.getD (rowOf (thrOf p l s).length (fromB (thrOf p l s) (inA l s))) (Int.toNat (accA l r).2.1) (dflt .bool)=fromB (thrOf p l s) (inA l s) (inA l r).toNat:=Zbv hin'
        rw[if_pos hin,hg]
        have hld:ldB' l r=true:=by unfold ldB';rw[d2,d3];rfl
        have hdb:delB p l s r=(fromB (thrOf p l s) (inA l s) (inA l r).toNat&&backB p l r s):=by
         unfold delB
         rw[hld,show (thA l r==thA l s)=true from d1];rfl
        by_cases d4:fromB (thrOf p l s) (inA l s) (inA l r).toNat=true
        ·rw[if_pos d4,if_pos (kb (r:Int)),vb r hr,ZJ,Bool.true_and,if_pos (ZS hsl),Zbv hsl]
         by_cases d5:backB p l r s=true
         ·rw[if_pos d5]
          rw[if_pos (by rw[hdb,d4,d5];rfl)] at he
          exact ih2 _ (by simp;omega) (by rw[List.append_assoc];exact he)
         ·rw[if_neg d5]
          exact next _ (by rw[hdb];simp[d5]) rfl
        ·rw[if_neg d4]
         exact next _ (by rw[hdb];simp[d4]) rfl
       ·rw[if_neg d3]
        exact next _ (by unfold delB ldB';simp at d3;simp[d3]) rfl
      ·rw[if_neg d2]
       exact next _ (by unfold delB ldB';simp at d2;simp[d2]) rfl
     ·rw[if_neg d1]
      exact next _ (by unfold delB thA;simp at d1;simp[d1]) rfl
   exact inner 0 (Nat.zero_le _) out (by omega) (by rw[hdel];rfl)
 have:=outer 0 (Nat.zero_le _) [] (Nat.zero_le _)
 unfold ZmY ZA
 rw[Ze,if_pos kt,hl]
 exact this
end Go.Ev
end

section
open Go Go.Ev
namespace Go.Ev
noncomputable section
noncomputable def Zut:Run:=entG Zee ZjI (fun a=>ZbY a.1) (fun a=>ZA a.1)
theorem ZBm:EntOK Go.Proofs.Tryz.prog 13 Zut:=ZM (tb:=ZmU) (c:=Zkb) ZBQ (by kernel_rfl) (by kernel_rfl) (by kernel_rfl) (fun a=>by kernel_rfl) fun ⟨p,_⟩ hk=>Zm (c:=Zkb) (K:=fun v=>(ZjI v,tps (toForms Zee (p,())))) (S:=Zdt p) (by kernel_rfl) (ZA6 p) (ZBk p) (ZEJ p hk)
end
end Go.Ev
end

section
open Go Go.Ev
namespace Go.Ev
noncomputable section
def Zkr:Sig:=[(false,(.sl (.int .i64))),(false,(.int .i64))]
noncomputable def Zzq:Tbl:=[]
theorem ZLs:∀p∈Zzq,EntOK Go.Proofs.Tryz.prog p.1 p.2:=Zt
noncomputable def Zvn:Code:=Go.Proofs.Tryz.f46.body.getD .skip
def Zwl:Tb:=[(3,⟨[0,1,5],[]⟩)]
inductive Zqv where | l3 (i:Int)
def Zry (l:List Int) (n:Int):Zqv→JT Zqv (Bool) |.l3 i=>.br (decide (i < (Int.ofNat (List.length l)))) (.br ((decide ((0:Int)≤i))&&(decide (i < (Int.ofNat (List.length l))))) (.br ((List.getD l (Int.toNat i) (dflt (.int .i64)))==n) (.leaf true) (.jmp (.l3 (IntKind.i64.wrap (i+(1:Int)))))) (.no)) (.leaf false)
def Zwg (l:List Int) (n:Int):JT Zqv (Bool):=.jmp (.l3 (0:Int))
def ZvL:Bool→AV:=fun (r:Bool)=>.d .bool r
def Zlj (l:List Int) (n:Int):Zqv→Nat×St |.l3 i=>(3,⟨mkTm 18 [(0,.d (.sl (.int .i64)) l),(1,.d (.int .i64) n),(5,.d (.int .i64) i)],[]⟩)
theorem ZKS (l:List Int) (n:Int) (L:Lt):entryA Go.Proofs.Tryz.prog (clOf Zzq) Zwl Go.Proofs.Tryz.f46 Zvn L (toForms Zkr (l,n,()))=(Zwg l n).run (fun v=>some (ZvL v,tps (toForms Zkr (l,n,())))) fun j=>L (Zlj l n j).1 (Zlj l n j).2:=by kernel_rfl
theorem ZKJ (l:List Int) (n:Int):∀(L:Lt) (j:Zqv),procOf (procsF Go.Proofs.Tryz.prog (clOf Zzq) Zwl Go.Proofs.Tryz.f46 Zvn (toForms Zkr (l,n,()))) (Zlj l n j).1 L (Zlj l n j).2=(Zry l n j).run (fun v=>some (ZvL v,tps (toForms Zkr (l,n,())))) fun j=>L (Zlj l n j).1 (Zlj l n j).2 | L,.l3 i=>by kernel_rfl
end
end Go.Ev
end

section
open Go
namespace Go.Ev
def ZnV (l:List Int) (n:Int):Bool:=l.contains n
def ZqH (l:List Int) (n:Int):Bool:=decide (l.length < 4611686018427387904)
theorem ZMy (l:List Int) (n:Int) (hk:ZqH l n=true):Goes (Zry l n) (Zwg l n) (ZnV l n):=by
 have hn:l.length < 4611686018427387904:=of_decide_eq_true hk
 have loop:∀k,k≤l.length→Goes (Zry l n) (.jmp (.l3 (k:Int))) ((l.drop k).contains n):=by
  refine down ?_ fun k hk ih=>?_
  ·rw[Zi]
   simp only[Zry,Ze,Zy (Nat.lt_irrefl _),ZQ,List.drop_length]
   simp
  ·rw[Zi]
   simp only[Zry,Ze,ZS hk,nng,Bool.and_self,if_true,Int.toNat_natCast,ZH hk,Zr (k:=k) (by omega)]
   rw[ZP hk,List.contains_cons]
   cases h:(l[k]==n) with
   | true=>
    have:(n==l[k])=true:=by simp at h ⊢;exact h.symm
    rw[this];simp[ZQ]
   | false=>
    have:(n==l[k])=false:=by simp at h ⊢;exact fun e=>h e.symm
    rw[this];simpa using ih
 unfold Zwg ZnV
 simpa using loop 0 (Nat.zero_le _)
end Go.Ev
end

section
open Go Go.Ev
namespace Go.Ev
noncomputable section
noncomputable def ZFv:Run:=entG Zkr ZvL (fun a=>ZqH a.1 a.2.1) (fun a=>ZnV a.1 a.2.1)
theorem ZLq:EntOK Go.Proofs.Tryz.prog 46 ZFv:=ZM (tb:=Zwl) (c:=Zvn) ZLs (by kernel_rfl) (by kernel_rfl) (by kernel_rfl) (fun a=>by kernel_rfl) fun ⟨l,n,_⟩ hk=>Zm (c:=Zvn) (K:=fun v=>(ZvL v,tps (toForms Zkr (l,n,())))) (S:=Zlj l n) (by kernel_rfl) (ZKS l n) (ZKJ l n) (ZMy l n hk)
end
end Go.Ev
end

section
open Go Go.Ev
namespace Go.Ev
noncomputable section
def Zfs:Sig:=[(true,Za)]
noncomputable def Zsb:Tbl:=[(74,Zb7),(51,ZoE)]
theorem ZEU:∀p∈Zsb,EntOK Go.Proofs.Tryz.prog p.1 p.2:=Zg Zcu (Zg Ztd (Zt))
noncomputable def Zmf:Code:=Go.Proofs.Tryz.f47.body.getD .skip
def ZpQ:Tb:=[]
def ZxK (i:El Za):Empty→JT Empty (Bool):=fun j=>nomatch j
def Zu9 (i:El Za):JT Empty (Bool):=.br (ZC i) (.br ((ZB i)==(0:Int)) (.br (i.1==(12:Int)) (.leaf true) (.br (Zai i) (.leaf (ZaB i)) (.no))) (.br (Zai i) (.leaf (ZaB i)) (.no))) (.no)
def ZgV (i:El Za):Bool:=bif (ZC i) then bif ((ZB i)==(0:Int)) then bif (i.1==(12:Int)) then true else bif (Zai i) then (ZaB i) else false else bif (Zai i) then (ZaB i) else false else false
def Zg7 (i:El Za):Bool:=bif (ZC i) then bif ((ZB i)==(0:Int)) then bif (i.1==(12:Int)) then true else bif (Zai i) then true else false else bif (Zai i) then true else false else false
theorem ZFQ (i:El Za) (hk:Zg7 i=true):Goes (ZxK i) (Zu9 i) (ZgV i):=Goes.brk hk (fun hk=>Goes.brk hk (fun hk=>Goes.brk hk (fun hk=>Goes.leaf) (fun hk=>Goes.brk hk (fun hk=>Goes.leaf) (fun hk=>Goes.nok hk))) (fun hk=>Goes.brk hk (fun hk=>Goes.leaf) (fun hk=>Goes.nok hk))) (fun hk=>Goes.nok hk)
def Zl4:Bool→AV:=fun (r:Bool)=>.d .bool r
def Ze9 (i:El Za):Empty→Nat×St:=fun j=>nomatch j
theorem ZDD (i:El Za) (L:Lt):entryA Go.Proofs.Tryz.prog (clOf Zsb) ZpQ Go.Proofs.Tryz.f47 Zmf L (toForms Zfs (i,()))=(Zu9 i).run (fun v=>some (Zl4 v,tps (toForms Zfs (i,())))) fun j=>L (Ze9 i j).1 (Ze9 i j).2:=by kernel_rfl
theorem ZDg (i:El Za):∀(L:Lt) (j:Empty),procOf (procsF Go.Proofs.Tryz.prog (clOf Zsb) ZpQ Go.Proofs.Tryz.f47 Zmf (toForms Zfs (i,()))) (Ze9 i j).1 L (Ze9 i j).2=(ZxK i j).run (fun v=>some (Zl4 v,tps (toForms Zfs (i,())))) fun j=>L (Ze9 i j).1 (Ze9 i j).2:=fun L j=>nomatch j
noncomputable def ZxG:Run:=entG Zfs Zl4 (fun a=>Zg7 a.1) (fun a=>ZgV a.1)
theorem ZDd:EntOK Go.Proofs.Tryz.prog 47 ZxG:=ZM (tb:=ZpQ) (c:=Zmf) ZEU (by kernel_rfl) (by kernel_rfl) (by kernel_rfl) (fun a=>by kernel_rfl) fun ⟨i,_⟩ hk=>Zm (c:=Zmf) (K:=fun v=>(Zl4 v,tps (toForms Zfs (i,())))) (S:=Ze9 i) (by kernel_rfl) (ZDD i) (ZDg i) (ZFQ i hk)
end
end Go.Ev
end

section
open Go Go.Ev
namespace Go.Ev
noncomputable section
def Zhe:Sig:=[(true,(.sl Za)),(false,(.sl (.int .i64))),(false,(.int .i64))]
noncomputable def ZtU:Tbl:=[(45,ZtN),(46,ZFv),(47,ZxG)]
theorem ZF9:∀p∈ZtU,EntOK Go.Proofs.Tryz.prog p.1 p.2:=Zg Zxv (Zg ZLq (Zg ZDd (Zt)))
noncomputable def ZpR:Code:=Go.Proofs.Tryz.f23.body.getD .skip
def ZqF:Tb:=[(4,⟨[1,3,7,8],[]⟩),(10,⟨[1,3,7,9],[]⟩),(15,⟨[1,3,7,9,10],[]⟩),(23,⟨[1,3,7,9,10,11,12],[]⟩)]
inductive ZkL where | l4 (i:Int) (is:List Bool) | l10 (is:List Bool) (moved:Bool) | l15 (is:List Bool) (k:Int) (moved:Bool) | l23 (is:List Bool) (k:Int) (more:List Bool) (moved:Bool) (j_:Int)
def ZaP (t:List (El Za)) (points:List Int) (s:Int):ZkL→JT ZkL (List Bool) |.l4 i is=>.br (decide (i < (Int.ofNat (List.length is)))) (.br ((decide ((0:Int)≤i))&&(decide (i < (Int.ofNat (List.length is))))) (.br (List.getD is (Int.toNat i) (dflt .bool)) (.br (ZqH points i) (.br ((decide ((0:Int)≤i))&&(decide (i < (Int.ofNat (List.length is))))) (.jmp (.l4 (IntKind.i64.wrap (i+(1:Int))) (List.set is (Int.toNat i) (! (ZnV points i))))) (.no)) (.no)) (.br ((decide ((0:Int)≤i))&&(decide (i < (Int.ofNat (List.length is))))) (.jmp (.l4 (IntKind.i64.wrap (i+(1:Int))) (List.set is (Int.toNat i) false))) (.no))) (.no)) (.jmp (.l10 is true)) |.l10 is moved=>.br moved (.jmp (.l15 is (0:Int) false)) (.leaf is) |.l15 is k moved=>.br (decide (k < (Int.ofNat (List.length is)))) (.br ((decide ((0:Int)≤k))&&(decide (k < (Int.ofNat (List.length is))))) (.br (! (List.getD is (Int.toNat k) (dflt .bool))) (.jmp (.l15 is (IntKind.i64.wrap (k+(1:Int))) moved)) (.br ((decide ((0:Int)≤k))&&(decide (k < (Int.ofNat (List.length t))))) (.br (Zg7 (List.getD t (Int.toNat k) (dflt Za))) (.br (ZgV (List.getD t (Int.toNat k) (dflt Za))) (.jmp (.l15 is (IntKind.i64.wrap (k+(1:Int))) moved)) (.br (ZcO t k) (.jmp (.l23 is k (Za7 t k) moved (0:Int))) (.no))) (.no)) (.no))) (.no)) (.jmp (.l10 is moved)) |.l23 is k more moved j_=>.br (decide (j_ < (Int.ofNat (List.length is)))) (.br ((decide ((0:Int)≤j_))&&(decide (j_ < (Int.ofNat (List.length more))))) (.br (List.getD more (Int.toNat j_) (dflt .bool)) (.br ((decide ((0:Int)≤j_))&&(decide (j_ < (Int.ofNat (List.length is))))) (.br (! (List.getD is (Int.toNat j_) (dflt .bool))) (.br (ZqH points j_) (.br (! (ZnV points j_)) (.br ((decide ((0:Int)≤j_))&&(decide (j_ < (Int.ofNat (List.length is))))) (.jmp (.l23 (List.set is (Int.toNat j_) true) k more true (IntKind.i64.wrap (j_+(1:Int))))) (.no)) (.jmp (.l23 is k more moved (IntKind.i64.wrap (j_+(1:Int)))))) (.no)) (.jmp (.l23 is k more moved (IntKind.i64.wrap (j_+(1:Int)))))) (.no)) (.jmp (.l23 is k more moved (IntKind.i64.wrap (j_+(1:Int)))))) (.no)) (.jmp (.l15 is (IntKind.i64.wrap (k+(1:Int))) moved))
def ZqN (t:List (El Za)) (points:List Int) (s:Int):JT ZkL (List Bool):=.br (ZcO t s) (.jmp (.l4 (0:Int) (Za7 t s))) (.no)
def ZoS:List Bool→AV:=fun (r:List Bool)=>.rw 4 .bool r
def Zgz (t:List (El Za)) (points:List Int) (s:Int):ZkL→Nat×St |.l4 i is=>(4,⟨mkTm 85 [(1,.d (.sl (.int .i64)) points),(3,.pt 4 0 0),(7,.own 8 0 none),(8,.d (.int .i64) i)],[(4,0,.box 33 [.d (.sl Za) t] none),(8,0,.row 4 .bool is false)]⟩) |.l10 is moved=>(10,⟨mkTm 85 [(1,.d (.sl (.int .i64)) points),(3,.pt 4 0 0),(7,.own 8 0 none),(9,.d .bool moved)],[(4,0,.box 33 [.d (.sl Za) t] none),(8,0,.row 4 .bool is false)]⟩) |.l15 is k moved=>(15,⟨mkTm 85 [(1,.d (.sl (.int .i64)) points),(3,.pt 4 0 0),(7,.own 8 0 none),(9,.d .bool moved),(10,.d (.int .i64) k)],[(4,0,.box 33 [.d (.sl Za) t] none),(8,0,.row 4 .bool is false)]⟩) |.l23 is k more moved j_=>(23,⟨mkTm 85 [(1,.d (.sl (.int .i64)) points),(3,.pt 4 0 0),(7,.own 8 0 none),(9,.d .bool moved),(10,.d (.int .i64) k),(11,.own 12 0 none),(12,.d (.int .i64) j_)],[(4,0,.box 33 [.d (.sl Za) t] none),(8,0,.row 4 .bool is false),(12,0,.row 4 .bool more false)]⟩)
theorem ZFz (t:List (El Za)) (points:List Int) (s:Int) (L:Lt):entryA Go.Proofs.Tryz.prog (clOf ZtU) ZqF Go.Proofs.Tryz.f23 ZpR L (toForms Zhe (t,points,s,()))=(ZqN t points s).run (fun v=>some (ZoS v,tps (toForms Zhe (t,points,s,())))) fun j=>L (Zgz t points s j).1 (Zgz t points s j).2:=by kernel_rfl
theorem ZGj (t:List (El Za)) (points:List Int) (s:Int):∀(L:Lt) (j:ZkL),procOf (procsF Go.Proofs.Tryz.prog (clOf ZtU) ZqF Go.Proofs.Tryz.f23 ZpR (toForms Zhe (t,points,s,()))) (Zgz t points s j).1 L (Zgz t points s j).2=(ZaP t points s j).run (fun v=>some (ZoS v,tps (toForms Zhe (t,points,s,())))) fun j=>L (Zgz t points s j).1 (Zgz t points s j).2 | L,.l4 i is=>by kernel_rfl | L,.l10 is moved=>by kernel_rfl | L,.l15 is k moved=>by kernel_rfl | L,.l23 is k more moved j_=>by kernel_rfl
end
end Go.Ev
end

section
open Go Go.Ev
namespace Go.Ev
noncomputable section
def ZgM:Sig:=[(true,Za)]
noncomputable def ZtX:Tbl:=[(83,Zgv),(58,Zrv)]
theorem ZHZ:∀p∈ZtX,EntOK Go.Proofs.Tryz.prog p.1 p.2:=Zg Zhh (Zg ZuV (Zt))
noncomputable def Zpg:Code:=Go.Proofs.Tryz.f89.body.getD .skip
def ZrK:Tb:=[]
def Zy2 (i:El Za):Empty→JT Empty (Bool):=fun j=>nomatch j
def Zw0 (i:El Za):JT Empty (Bool):=.br (ZN i) (.br ((Zw i)==(0:Int)) (.br (i.1==(12:Int)) (.leaf true) (.br (Zay i) (.leaf (Zaj i)) (.no))) (.br (Zay i) (.leaf (Zaj i)) (.no))) (.no)
def Zgj (i:El Za):Bool:=bif (ZN i) then bif ((Zw i)==(0:Int)) then bif (i.1==(12:Int)) then true else bif (Zay i) then (Zaj i) else false else bif (Zay i) then (Zaj i) else false else false
def Ze8 (i:El Za):Bool:=bif (ZN i) then bif ((Zw i)==(0:Int)) then bif (i.1==(12:Int)) then true else bif (Zay i) then true else false else bif (Zay i) then true else false else false
theorem ZIC (i:El Za) (hk:Ze8 i=true):Goes (Zy2 i) (Zw0 i) (Zgj i):=Goes.brk hk (fun hk=>Goes.brk hk (fun hk=>Goes.brk hk (fun hk=>Goes.leaf) (fun hk=>Goes.brk hk (fun hk=>Goes.leaf) (fun hk=>Goes.nok hk))) (fun hk=>Goes.brk hk (fun hk=>Goes.leaf) (fun hk=>Goes.nok hk))) (fun hk=>Goes.nok hk)
def Zn4:Bool→AV:=fun (r:Bool)=>.d .bool r
def Zgp (i:El Za):Empty→Nat×St:=fun j=>nomatch j
theorem ZH6 (i:El Za) (L:Lt):entryA Go.Proofs.Tryz.prog (clOf ZtX) ZrK Go.Proofs.Tryz.f89 Zpg L (toForms ZgM (i,()))=(Zw0 i).run (fun v=>some (Zn4 v,tps (toForms ZgM (i,())))) fun j=>L (Zgp i j).1 (Zgp i j).2:=by kernel_rfl
theorem ZIj (i:El Za):∀(L:Lt) (j:Empty),procOf (procsF Go.Proofs.Tryz.prog (clOf ZtX) ZrK Go.Proofs.Tryz.f89 Zpg (toForms ZgM (i,()))) (Zgp i j).1 L (Zgp i j).2=(Zy2 i j).run (fun v=>some (Zn4 v,tps (toForms ZgM (i,())))) fun j=>L (Zgp i j).1 (Zgp i j).2:=fun L j=>nomatch j
noncomputable def ZzT:Run:=entG ZgM Zn4 (fun a=>Ze8 a.1) (fun a=>Zgj a.1)
theorem ZIo:EntOK Go.Proofs.Tryz.prog 89 ZzT:=ZM (tb:=ZrK) (c:=Zpg) ZHZ (by kernel_rfl) (by kernel_rfl) (by kernel_rfl) (fun a=>by kernel_rfl) fun ⟨i,_⟩ hk=>Zm (c:=Zpg) (K:=fun v=>(Zn4 v,tps (toForms ZgM (i,())))) (S:=Zgp i) (by kernel_rfl) (ZH6 i) (ZIj i) (ZIC i hk)
end
end Go.Ev
end

section
open Go
namespace Go.Ev
theorem ZNi {i:El Za} (h:smallText i.2.2.2.2.2.1=true):Ze8 i=true∧Zg7 i=true:=by
 have h0:ZN i=true:=h
 have h1:ZC i=true:=h
 have a:Zay i=true:=by unfold Zay;simp only[h0,cond_true,Bool.cond_self]
 have b:Zai i=true:=by unfold Zai;simp only[h1,cond_true,Bool.cond_self]
 unfold Ze8 Zg7
 simp only[h0,h1,a,b,cond_true,Bool.cond_self,and_self]
theorem ZLS {i:El Za} (h:smallText i.2.2.2.2.2.1=true):ZgV i=Zgj i:=by
 have h0:ZN i=true:=h
 have h1:ZC i=true:=h
 have a:Zay i=true:=by unfold Zay;simp only[h0,cond_true,Bool.cond_self]
 have b:Zai i=true:=by unfold Zai;simp only[h1,cond_true,Bool.cond_self]
 have c:ZaB i=Zaj i:=by
  unfold ZaB Zaj ZB
  simp only[h0,h1]
 unfold ZgV Zgj ZB
 simp only[h0,h1,a,b,c]
end Go.Ev
end

section
open Go
namespace Go.Ev
theorem ZOD {i:El Za} (h:smallText i.2.2.2.2.2.1=true):Ze8 i=true:=by
 have h0:ZN i=true:=h
 have a:Zay i=true:=by unfold Zay;simp only[h0,cond_true,Bool.cond_self]
 unfold Ze8
 simp only[h0,a,cond_true,Bool.cond_self]
end Go.Ev
end

section
open Go
namespace Go.Ev
def fenceAtT (t:List (El Za)) (k:Nat):Bool:=Zgj (t.getD k (dflt Za))
def stepB (t:List (El Za)) (points:List Int) (k j:Nat):Bool:=!fenceAtT t k&&(nextB t (k:Int) j&& !points.contains (j:Int))
def firstB (t:List (El Za)) (points:List Int) (s:Int) (j:Nat):Bool:=nextB t s j&& !points.contains (j:Int)
noncomputable def endsB (t:List (El Za)) (points:List Int) (s:Int) (j:Nat):Bool:=comeB (stepB t points) (firstB t points s) j
theorem ZDQ {t:List (El Za)} {points:List Int} {k j:Nat} (h:stepB t points k j=true):j < t.length:=by
 unfold stepB at h
 simp only[Bool.and_eq_true] at h
 exact Zel h.2.1
theorem ZHr {t:List (El Za)} {points:List Int} {s:Int} {j:Nat} (h:firstB t points s j=true):j < t.length:=by
 unfold firstB at h
 simp only[Bool.and_eq_true] at h
 exact Zel h.1
end Go.Ev
end

section
open Go
namespace Go.Ev
noncomputable def Zam (t:List (El Za)) (points:List Int) (s:Int):List Bool:=rowOf t.length (endsB t points s)
def Ze4 (t:List (El Za)) (points:List Int) (s:Int):Bool:=flowOK t&&decide (points.length < 4611686018427387904)
theorem ZJK (t:List (El Za)) (points:List Int) (s:Int) (hk:Ze4 t points s=true):Goes (ZaP t points s) (ZqN t points s) (Zam t points s):=by
 unfold Ze4 at hk
 rw[Bool.and_eq_true] at hk
 obtain ⟨hf,hpl⟩:=hk
 have hlen:=ZbL hf
 have kIn:∀x,ZqH points x=true:=fun x=>hpl
 have vIn:∀x,ZnV points x=points.contains x:=fun x=>rfl
 generalize hn:t.length=n at hlen
 have kfe:∀k,k < n→Zg7 (List.getD t k (dflt Za))=true∧ZgV (List.getD t k (dflt Za))=fenceAtT t k:=fun k hk=>by
  have hmem:t.getD k (dflt Za)∈t:=by rw[ZH (by omega)];exact List.getElem_mem (by omega)
  have hs:=Zlm hf hmem
  exact ⟨(ZNi hs).2,ZLS hs⟩
 let OK:(Nat→Bool)→(Nat→Bool)→Bool→Prop:=fun M0 M moved=>(∀j,firstB t points s j=true→M j=true)∧(∀j,M j=true→Come (stepB t points) (firstB t points s) j)∧(moved=false→M=M0)∧(moved=true→card n M0 < card n M)
 have hltM:∀ {M0 M moved},OK M0 M moved→∀j,M j=true→j < n:=fun h j hj=>by
  have:=ZEG (n:=t.length) (fun j=>ZHr) (fun k j=>ZDQ) (h.2.1 j hj)
  omega
 have loop:∀m,∀M:Nat→Bool,n - card n M=m→(∀j,firstB t points s j=true→M j=true)→(∀j,M j=true→Come (stepB t points) (firstB t points s) j)→Goes (ZaP t points s) (.jmp (.l10 (rowOf n M) true)) (Zam t points s):=by
  intro m
  induction m using Nat.strongRecOn with
  | _ m ih=>
  intro M0 hm hA hC
  have inner:∀k,k < n→fenceAtT t k=false→∀Z:Prop,(∀M moved,OK M0 M moved→(moved=false→Z∧∀j,stepB t points k j=true→M0 j=true)→Goes (ZaP t points s) (.jmp (.l15 (rowOf n M) ((k+1:Nat):Int) moved)) (Zam t points s))→
    ∀j,j≤n→∀M moved,M k=true→OK M0 M moved→(moved=false→Z∧∀x,x < j→stepB t points k x=true→M0 x=true)→Goes (ZaP t points s) (.jmp (.l23 (rowOf n M) (k:Int) (rowOf n (nextB t (k:Int))) moved (j:Int))) (Zam t points s):=by
   intro k hkn hfk Z hz
   have hst:∀x,stepB t points k x=(nextB t (k:Int) x&& !points.contains (x:Int)):=fun x=>by unfold stepB;rw[hfk];rfl
   refine down ?_ fun j hj ih2=>?_
   ·intro M moved hMk hok hcl
    rw[Zi,ZaP,Ze,ZJ,if_neg (by rw[Zy (Nat.lt_irrefl _)];decide),Zr (by omega)]
    exact hz M moved hok fun hm=>⟨(hcl hm).1,fun j hj=>(hcl hm).2 j (by have:=ZDQ hj;omega) hj⟩
   ·intro M moved hMk hok hcl
    rw[Zi,ZaP,Ze,ZJ,if_pos (ZS hj),Ze,ZJ,if_pos (Zaq hj),Ze,Int.toNat_natCast,Zbv hj,Zr (by omega)]
    have skip:(stepB t points k j=true→moved=false→M0 j=true)→Goes (ZaP t points s) (.jmp (.l23 (rowOf n M) (k:Int) (rowOf n (nextB t (k:Int))) moved ((j+1:Nat):Int))) (Zam t points s):=fun hsk=>by
     refine ih2 M moved hMk hok fun hm=>⟨(hcl hm).1,fun x hx hxN=>?_⟩
     by_cases hxj:x=j
     ·subst hxj;exact hsk hxN hm
     ·exact (hcl hm).2 x (by omega) hxN
    by_cases hN:nextB t (k:Int) j=true
    ·rw[if_pos hN,Ze,if_pos (Zaq hj),Ze,Zbv hj]
     cases hMj:M j with
     | true=>
      rw[if_neg (by decide)]
      exact skip fun _ hm=>by rw[←hok.2.2.1 hm];exact hMj
     | false=>
      rw[if_pos (by decide),Ze,if_pos (kIn _),Ze,vIn]
      cases hpt:points.contains (j:Int) with
      | true=>
       rw[if_neg (by decide)]
       exact skip fun h _=>by rw[hst,hpt,Bool.not_true,Bool.and_false] at h;cases h
      | false=>
       rw[if_pos (by decide),Ze,if_pos (Zaq hj),ZqW]
       have hca:=Zmm hMj hj
       refine ih2 (fun x=>M x || (x==j)) true (by rw[hMk];rfl) ⟨fun x hx=>(show (M x || (x==j))=true by rw[hok.1 x hx];rfl),fun x hx=>?_,fun h=>(by cases h),fun _=>?_⟩ (fun h=>by cases h)
       ·simp only[Bool.or_eq_true,beq_iff_eq] at hx
        rcases hx with hx | hx
        ·exact hok.2.1 x hx
        ·subst hx;exact .step (hok.2.1 k hMk) (by rw[hst,hN,hpt];rfl)
       ·cases moved with
        | true=>have:=hok.2.2.2 rfl;omega
        | false=>rw[hok.2.2.1 rfl] at hca;rw[hok.2.2.1 rfl];omega
    ·rw[if_neg hN]
     exact skip fun h _=>by rw[hst] at h;simp only[Bool.and_eq_true] at h;exact absurd h.1 hN
  have pass:∀k,k≤n→∀M moved,OK M0 M moved→(moved=false→∀k' j,k' < k→M0 k'=true→stepB t points k' j=true→M0 j=true)→Goes (ZaP t points s) (.jmp (.l15 (rowOf n M) (k:Int) moved)) (Zam t points s):=by
   refine down ?_ fun k hkn ih2=>?_
   ·intro M moved hok hcl
    rw[Zi,ZaP,Ze,ZJ,if_neg (by rw[Zy (Nat.lt_irrefl _)];decide)]
    cases moved with
    | true=>
     have h1:=hok.2.2.2 rfl
     have h2:= @Zfe n M
     exact ih (n - card n M) (by omega) M rfl hok.1 hok.2.1
    | false=>
     have e:=hok.2.2.1 rfl
     subst e
     rw[Zi,ZaP,Ze,if_neg (by decide)]
     have hv:rowOf n M=Zam t points s:=by
      unfold Zam endsB
      rw[hn]
      exact Z3 fun j _=>ZpC hok.1 (fun k j hk hj=>hcl rfl k j (hltM hok k hk) hk hj) hok.2.1 j
     rw[hv];exact .leaf
   ·intro M moved hok hcl
    rw[Zi,ZaP,Ze,ZJ,if_pos (ZS hkn),Ze,if_pos (Zaq hkn),Ze,Int.toNat_natCast,Zbv hkn]
    cases hMk:M k with
    | false=>
     rw[if_pos (by decide),Zr (by omega)]
     refine ih2 M moved hok fun hm k' j hk' hk1 hj=>?_
     by_cases e:k'=k
     ·subst e;rw[←hok.2.2.1 hm,hMk] at hk1;cases hk1
     ·exact hcl hm k' j (by omega) hk1 hj
    | true=>
     have kn:ZcO t (k:Int)=true:=hf
     obtain ⟨kf1,vf1⟩:=kfe k hkn
     rw[if_neg (by decide),Ze,hn,if_pos (Zaq hkn),Ze,if_pos kf1,Ze,vf1]
     cases hfk:fenceAtT t k with
     | true=>
      rw[if_pos rfl,Zr (by omega)]
      refine ih2 M moved hok fun hm k' j hk' hk1 hj=>?_
      by_cases e:k'=k
      ·subst e;unfold stepB at hj;rw[hfk] at hj;cases hj
      ·exact hcl hm k' j (by omega) hk1 hj
     | false=>
      rw[if_neg (by decide),Ze,if_pos kn]
      have hvn:Za7 t (k:Int)=rowOf n (nextB t (k:Int)):=by unfold Za7;rw[hn]
      rw[hvn]
      refine inner k hkn hfk (∀k' j,k' < k→M0 k'=true→stepB t points k' j=true→M0 j=true) (fun M' moved' hok' hcl'=>ih2 M' moved' hok' fun hm k' j hk' hk1 hj=>?_) 0 (Nat.zero_le _) M moved hMk hok (fun hm=>⟨hcl hm,fun x hx=>by omega⟩)
      by_cases e:k'=k
      ·subst e;exact (hcl' hm).2 j hj
      ·exact (hcl' hm).1 k' j (by omega) hk1 hj
  rw[Zi,ZaP,Ze,if_pos rfl]
  exact pass 0 (Nat.zero_le _) M0 false ⟨hA,hC,fun _=>rfl,fun h=>by cases h⟩ fun _ k' j h=>by omega
 have kn:ZcO t s=true:=hf
 unfold ZqN
 rw[Ze,if_pos kn]
 have hvn:Za7 t s=rowOf n fun j=>if j < 0 then firstB t points s j else nextB t s j:=by
  unfold Za7;rw[hn]
  exact Z3 fun j _=>by rw[if_neg (by omega)]
 rw[hvn]
 have first:∀k,k≤n→Goes (ZaP t points s) (.jmp (.l4 (k:Int) (rowOf n fun j=>if j < k then firstB t points s j else nextB t s j))) (Zam t points s):=by
  refine down ?_ fun k hkn ih=>?_
  ·rw[Zi,ZaP,Ze,ZJ,if_neg (by rw[Zy (Nat.lt_irrefl _)];decide)]
   rw[show (rowOf n fun j=>if j < n then firstB t points s j else nextB t s j)=rowOf n (firstB t points s) from Z3 fun j hj=>by rw[if_pos hj]]
   exact loop _ (firstB t points s) rfl (fun j h=>h) (fun j h=>.start h)
  ·have nx:∀b,b=firstB t points s k→Goes (ZaP t points s) (.jmp (.l4 ((k+1:Nat):Int) ((rowOf n fun j=>if j < k then firstB t points s j else nextB t s j).set k b))) (Zam t points s):=fun b hb=>by
    rw[ZyQ]
    rw[show (rowOf n fun j=>if j=k then b else if j < k then firstB t points s j else nextB t s j)=rowOf n fun j=>if j < k+1 then firstB t points s j else nextB t s j from Z3 fun j _=>by
     by_cases h1:j=k
     ·subst h1;rw[if_pos rfl,if_pos (by omega),hb]
     ·rw[if_neg h1]
      by_cases h2:j < k
      ·rw[if_pos h2,if_pos (by omega)]
      ·rw[if_neg h2,if_neg (by omega)]]
    exact ih
   rw[Zi,ZaP,Ze,ZJ,if_pos (ZS hkn),Ze,if_pos (Zaq hkn),Ze,Int.toNat_natCast,Zbv hkn,if_neg (c:=k < k) (Nat.lt_irrefl k),Zr (by omega)]
   cases hN:nextB t s k with
   | true=>
    rw[if_pos rfl,Ze,if_pos (kIn _),Ze,if_pos (Zaq hkn),vIn]
    exact nx _ (by unfold firstB;rw[hN,Bool.true_and])
   | false=>
    rw[if_neg (by decide),Ze,if_pos (Zaq hkn)]
    exact nx false (by unfold firstB;rw[hN,Bool.false_and])
 exact first 0 (Nat.zero_le _)
end Go.Ev
end

section
open Go Go.Ev
namespace Go.Ev
noncomputable section
noncomputable def Zzj:Run:=entG Zhe ZoS (fun a=>Ze4 a.1 a.2.1 a.2.2.1) (fun a=>Zam a.1 a.2.1 a.2.2.1)
theorem ZHU:EntOK Go.Proofs.Tryz.prog 23 Zzj:=ZM (tb:=ZqF) (c:=ZpR) ZF9 (by kernel_rfl) (by kernel_rfl) (by kernel_rfl) (fun a=>by kernel_rfl) fun ⟨t,points,s,_⟩ hk=>Zm (c:=ZpR) (K:=fun v=>(ZoS v,tps (toForms Zhe (t,points,s,())))) (S:=Zgz t points s) (by kernel_rfl) (ZFz t points s) (ZGj t points s) (ZJK t points s hk)
end
end Go.Ev
end

section
open Go Go.Ev
namespace Go.Ev
noncomputable section
def ZgZ:Sig:=[(true,(.sl Za)),(false,(.sl (.int .i64))),(false,(.int .i64)),(false,(.int .i64))]
noncomputable def Zun:Tbl:=[(23,Zzj)]
theorem ZFR:∀p∈Zun,EntOK Go.Proofs.Tryz.prog p.1 p.2:=Zg ZHU (Zt)
noncomputable def Zpe:Code:=Go.Proofs.Tryz.f10.body.getD .skip
def Zr9:Tb:=[]
def ZAd (t:List (El Za)) (points:List Int) (s:Int) (l:Int):Empty→JT Empty (Bool):=fun j=>nomatch j
def ZwK (t:List (El Za)) (points:List Int) (s:Int) (l:Int):JT Empty (Bool):=.br (decide (l≥(0:Int))) (.br (decide (l < (Int.ofNat (List.length t)))) (.br (Ze4 t points s) (.br ((decide ((0:Int)≤l))&&(decide (l < (Int.ofNat (List.length (Zam t points s)))))) (.leaf (List.getD (Zam t points s) (Int.toNat l) (dflt .bool))) (.no)) (.no)) (.leaf false)) (.leaf false)
def ZdB (t:List (El Za)) (points:List Int) (s:Int) (l:Int):Bool:=bif (decide (l≥(0:Int))) then bif (decide (l < (Int.ofNat (List.length t)))) then bif (Ze4 t points s) then bif ((decide ((0:Int)≤l))&&(decide (l < (Int.ofNat (List.length (Zam t points s)))))) then (List.getD (Zam t points s) (Int.toNat l) (dflt .bool)) else false else false else false else false
def Zdq (t:List (El Za)) (points:List Int) (s:Int) (l:Int):Bool:=bif (decide (l≥(0:Int))) then bif (decide (l < (Int.ofNat (List.length t)))) then bif (Ze4 t points s) then bif ((decide ((0:Int)≤l))&&(decide (l < (Int.ofNat (List.length (Zam t points s)))))) then true else false else false else true else true
theorem ZJV (t:List (El Za)) (points:List Int) (s:Int) (l:Int) (hk:Zdq t points s l=true):Goes (ZAd t points s l) (ZwK t points s l) (ZdB t points s l):=Goes.brk hk (fun hk=>Goes.brk hk (fun hk=>Goes.brk hk (fun hk=>Goes.brk hk (fun hk=>Goes.leaf) (fun hk=>Goes.nok hk)) (fun hk=>Goes.nok hk)) (fun hk=>Goes.leaf)) (fun hk=>Goes.leaf)
def ZpF:Bool→AV:=fun (r:Bool)=>.d .bool r
def ZgE (t:List (El Za)) (points:List Int) (s:Int) (l:Int):Empty→Nat×St:=fun j=>nomatch j
theorem ZHm (t:List (El Za)) (points:List Int) (s:Int) (l:Int) (L:Lt):entryA Go.Proofs.Tryz.prog (clOf Zun) Zr9 Go.Proofs.Tryz.f10 Zpe L (toForms ZgZ (t,points,s,l,()))=(ZwK t points s l).run (fun v=>some (ZpF v,tps (toForms ZgZ (t,points,s,l,())))) fun j=>L (ZgE t points s l j).1 (ZgE t points s l j).2:=by kernel_rfl
theorem ZFx (t:List (El Za)) (points:List Int) (s:Int) (l:Int):∀(L:Lt) (j:Empty),procOf (procsF Go.Proofs.Tryz.prog (clOf Zun) Zr9 Go.Proofs.Tryz.f10 Zpe (toForms ZgZ (t,points,s,l,()))) (ZgE t points s l j).1 L (ZgE t points s l j).2=(ZAd t points s l j).run (fun v=>some (ZpF v,tps (toForms ZgZ (t,points,s,l,())))) fun j=>L (ZgE t points s l j).1 (ZgE t points s l j).2:=fun L j=>nomatch j
noncomputable def ZtD:Run:=entG ZgZ ZpF (fun a=>Zdq a.1 a.2.1 a.2.2.1 a.2.2.2.1) (fun a=>ZdB a.1 a.2.1 a.2.2.1 a.2.2.2.1)
theorem Zxl:EntOK Go.Proofs.Tryz.prog 10 ZtD:=ZM (tb:=Zr9) (c:=Zpe) ZFR (by kernel_rfl) (by kernel_rfl) (by kernel_rfl) (fun a=>by kernel_rfl) fun ⟨t,points,s,l,_⟩ hk=>Zm (c:=Zpe) (K:=fun v=>(ZpF v,tps (toForms ZgZ (t,points,s,l,())))) (S:=ZgE t points s l) (by kernel_rfl) (ZHm t points s l) (ZFx t points s l) (ZJV t points s l hk)
end
end Go.Ev
end

section
open Go Go.Ev
namespace Go.Ev
noncomputable section
def Zg6:Sig:=[(true,Zc)]
noncomputable def ZtB:Tbl:=[(13,Zut),(10,ZtD)]
theorem ZFK:∀p∈ZtB,EntOK Go.Proofs.Tryz.prog p.1 p.2:=Zg ZBm (Zg Zxl (Zt))
noncomputable def Zom:Code:=Go.Proofs.Tryz.f6.body.getD .skip
def Zrg:Tb:=[(5,⟨[1,3,4,5],[(5,56)]⟩)]
inductive ZkI where | l5 (i:Int) (out:List (El Zd))
def Zlo (p:El Zc):ZkI→JT ZkI (List (El Zd)) |.l5 i out=>.br (decide (i < (Int.ofNat (List.length (ZA p))))) (.br ((decide ((0:Int)≤i))&&(decide (i < (Int.ofNat (List.length (ZA p)))))) (.br ((decide ((0:Int)≤(List.getD (ZA p) (Int.toNat i) (dflt Zd)).1))&&(decide ((List.getD (ZA p) (Int.toNat i) (dflt Zd)).1 < (Int.ofNat (List.length p.2))))) (.br ((decide ((0:Int)≤i))&&(decide (i < (Int.ofNat (List.length (ZA p)))))) (.br ((decide ((0:Int)≤i))&&(decide (i < (Int.ofNat (List.length (ZA p)))))) (.br (Zdq (List.getD p.2 (Int.toNat (List.getD (ZA p) (Int.toNat i) (dflt Zd)).1) (dflt (.sl Za))) [] (List.getD (ZA p) (Int.toNat i) (dflt Zd)).2.1 (List.getD (ZA p) (Int.toNat i) (dflt Zd)).2.2) (.br (ZdB (List.getD p.2 (Int.toNat (List.getD (ZA p) (Int.toNat i) (dflt Zd)).1) (dflt (.sl Za))) [] (List.getD (ZA p) (Int.toNat i) (dflt Zd)).2.1 (List.getD (ZA p) (Int.toNat i) (dflt Zd)).2.2) (.br ((decide ((0:Int)≤i))&&(decide (i < (Int.ofNat (List.length (ZA p)))))) (.br (Nat.ble (((List.length out)+1)*24) limit) (.jmp (.l5 (IntKind.i64.wrap (i+(1:Int))) (out++[(List.getD (ZA p) (Int.toNat i) (dflt Zd))]))) (.no)) (.no)) (.jmp (.l5 (IntKind.i64.wrap (i+(1:Int))) out))) (.no)) (.no)) (.no)) (.no)) (.no)) (.leaf out)
def ZrM (p:El Zc):JT ZkI (List (El Zd)):=.br (ZbY p) (.jmp (.l5 (0:Int) [])) (.no)
def Zn1:List (El Zd)→AV:=fun (r:List (El Zd))=>.rw 35 Zd r
def Zgx (p:El Zc):ZkI→Nat×St |.l5 i out=>(5,⟨mkTm 42 [(1,.pt 2 0 0),(3,.own 4 0 none),(4,.own 5 0 none),(5,.d (.int .i64) i)],[(2,0,.box 26 [.d (.sl Zx) p.1,.d (.sl (.sl Za)) p.2] none),(4,0,.row 35 Zd (ZA p) false),(5,0,.row 35 Zd out false)]⟩)
theorem ZFF (p:El Zc) (L:Lt):entryA Go.Proofs.Tryz.prog (clOf ZtB) Zrg Go.Proofs.Tryz.f6 Zom L (toForms Zg6 (p,()))=(ZrM p).run (fun v=>some (Zn1 v,tps (toForms Zg6 (p,())))) fun j=>L (Zgx p j).1 (Zgx p j).2:=by kernel_rfl
theorem ZHG (p:El Zc):∀(L:Lt) (j:ZkI),procOf (procsF Go.Proofs.Tryz.prog (clOf ZtB) Zrg Go.Proofs.Tryz.f6 Zom (toForms Zg6 (p,()))) (Zgx p j).1 L (Zgx p j).2=(Zlo p j).run (fun v=>some (Zn1 v,tps (toForms Zg6 (p,())))) fun j=>L (Zgx p j).1 (Zgx p j).2 | L,.l5 i out=>by kernel_rfl
end
end Go.Ev
end

section
open Go
namespace Go.Ev
noncomputable def openR (p:El Zc) (x:El Zd):Bool:=ZdB (List.getD p.2 (Int.toNat x.1) (dflt (.sl Za))) [] x.2.1 x.2.2
noncomputable def openRK (p:El Zc) (x:El Zd):Bool:=(decide ((0:Int)≤x.1)&&decide (x.1 < Int.ofNat (List.length p.2)))&&Zdq (List.getD p.2 (Int.toNat x.1) (dflt (.sl Za))) [] x.2.1 x.2.2
noncomputable def Zat (p:El Zc):List (El Zd):=(ZA p).filter (openR p)
noncomputable def Zeq (p:El Zc):Bool:=ZbY p&&(decide ((ZA p).length < 10000000000)&&(ZA p).all (openRK p))
theorem ZJ3 (p:El Zc) (hk:Zeq p=true):Goes (Zlo p) (ZrM p) (Zat p):=by
 unfold Zeq at hk
 rw[Bool.and_eq_true,Bool.and_eq_true] at hk
 obtain ⟨k1,k2,k3⟩:=hk
 have hN:=of_decide_eq_true k2
 unfold ZrM Zat
 rw[Ze,if_pos k1]
 obtain ⟨l,hl⟩:∃l,ZA p=l:=⟨_,rfl⟩
 rw[hl] at hN k3
 rw[hl]
 have loop:∀k,k≤l.length→∀out:List (El Zd),out.length≤k→Goes (Zlo p) (.jmp (.l5 (k:Int) out)) (out++(l.drop k).filter (openR p)):=by
  refine down ?_ fun k hk ih=>?_
  ·intro out ho
   rw[Zi,Zlo,hl,Ze,if_neg (by rw[Zy (Nat.lt_irrefl _)];decide),List.drop_length]
   simp only[List.filter_nil,List.append_nil]
   exact .leaf
  ·intro out ho
   have b1:Nat.ble ((out.length+1)*24) limit=true:=Nat.ble_eq_true_of_le (by unfold limit;omega)
   have hx:=List.all_eq_true.1 k3 l[k] (List.getElem_mem hk)
   unfold openRK at hx
   rw[Bool.and_eq_true] at hx
   rw[Zi,Zlo,hl,ZP hk,List.filter_cons]
   simp only[Ze,ZS hk,nng,Bool.and_self,if_true,Int.toNat_natCast,ZH hk,b1,Zr (k:=k) (by omega)]
   rw[if_pos hx.1,if_pos hx.2]
   by_cases c:openR p l[k]=true
   ·have c':=c
    unfold openR at c'
    rw[if_pos c',if_pos c]
    have:=ih (out++[l[k]]) (by simp;omega)
    rw[List.append_assoc] at this
    exact this
   ·have c':=c
    unfold openR at c'
    rw[if_neg c',if_neg c]
    exact ih out (by omega)
 have:=loop 0 (Nat.zero_le _) [] (Nat.zero_le _)
 rw[List.nil_append,List.drop_zero] at this
 exact this
end Go.Ev
end

section
open Go Go.Ev
namespace Go.Ev
noncomputable section
noncomputable def ZyE:Run:=entG Zg6 Zn1 (fun a=>Zeq a.1) (fun a=>Zat a.1)
theorem ZG3:EntOK Go.Proofs.Tryz.prog 6 ZyE:=ZM (tb:=Zrg) (c:=Zom) ZFK (by kernel_rfl) (by kernel_rfl) (by kernel_rfl) (fun a=>by kernel_rfl) fun ⟨p,_⟩ hk=>Zm (c:=Zom) (K:=fun v=>(Zn1 v,tps (toForms Zg6 (p,())))) (S:=Zgx p) (by kernel_rfl) (ZFF p) (ZHG p) (ZJ3 p hk)
end
end Go.Ev
end

section
open Go Go.Ev
namespace Go.Ev
noncomputable section
def Zd4:Sig:=[(true,(.sl Za))]
noncomputable def Zoy:Tbl:=[]
theorem ZBf:∀p∈Zoy,EntOK Go.Proofs.Tryz.prog p.1 p.2:=Zt
noncomputable def Zkg:Code:=Go.Proofs.Tryz.f82.body.getD .skip
def Znc:Tb:=[(4,⟨[3,7,8,9],[]⟩)]
inductive ZhU where | l4 (n:Int) (h:Int)
def Zhu (t:List (El Za)):ZhU→JT ZhU (Int) |.l4 n h=>.br (decide (h < (Int.ofNat (List.length t)))) (.br ((decide ((0:Int)≤h))&&(decide (h < (Int.ofNat (List.length t))))) (.br ((List.getD t (Int.toNat h) (dflt Za)).1 !=(12:Int)) (.jmp (.l4 (IntKind.i64.wrap (n+(1:Int))) (IntKind.i64.wrap (h+(1:Int))))) (.jmp (.l4 n (IntKind.i64.wrap (h+(1:Int)))))) (.no)) (.leaf n)
def Zm5 (t:List (El Za)):JT ZhU (Int):=.jmp (.l4 (0:Int) (0:Int))
def ZjH:Int→AV:=fun (r:Int)=>.d (.int .i64) r
def ZdC (t:List (El Za)):ZhU→Nat×St |.l4 n h=>(4,⟨mkTm 20 [(3,.d (.int .i64) n),(7,.d (.sl Za) t),(8,.d (.int .i64) (Int.ofNat (List.length t))),(9,.d (.int .i64) h)],[]⟩)
theorem ZA3 (t:List (El Za)) (L:Lt):entryA Go.Proofs.Tryz.prog (clOf Zoy) Znc Go.Proofs.Tryz.f82 Zkg L (toForms Zd4 (t,()))=(Zm5 t).run (fun v=>some (ZjH v,tps (toForms Zd4 (t,())))) fun j=>L (ZdC t j).1 (ZdC t j).2:=by kernel_rfl
theorem ZBF (t:List (El Za)):∀(L:Lt) (j:ZhU),procOf (procsF Go.Proofs.Tryz.prog (clOf Zoy) Znc Go.Proofs.Tryz.f82 Zkg (toForms Zd4 (t,()))) (ZdC t j).1 L (ZdC t j).2=(Zhu t j).run (fun v=>some (ZjH v,tps (toForms Zd4 (t,())))) fun j=>L (ZdC t j).1 (ZdC t j).2 | L,.l4 n h=>by kernel_rfl
end
end Go.Ev
end

section
open Go
namespace Go.Ev
def Zhn (t:List (El Za)):Int:=(countM t:Int)
def Zkn (t:List (El Za)):Bool:=decide (t.length < 1099511627776)
theorem ZEH (t:List (El Za)) (hk:Zkn t=true):Goes (Zhu t) (Zm5 t) (Zhn t):=by
 have hn:t.length < 1099511627776:=of_decide_eq_true hk
 have loop:∀k,k≤t.length→∀n:Nat,n≤k→Goes (Zhu t) (.jmp (.l4 (n:Int) (k:Int))) ((n+countM (t.drop k):Nat):Int):=by
  refine down ?_ fun k hk ih=>?_
  ·intro n hnk
   rw[Zi]
   simp only[Zhu,Ze,Zy (Nat.lt_irrefl _),ZQ,List.drop_length]
   simp[countM]
  ·intro n hnk
   rw[Zi]
   simp only[Zhu,Ze,ZS hk,nng,Bool.and_self,if_true,Int.toNat_natCast,ZH hk,Zr (k:=k) (by omega),Zr (k:=n) (by omega)]
   rw[ZP hk]
   unfold countM
   rw[List.filter_cons]
   split
   ·rename_i h
    have:=ih (n+1) (by omega)
    unfold countM at this
    rw[List.length_cons,show n+((List.filter (fun i=>i.1 !=(12:Int)) (List.drop (k+1) t)).length+1)=n+1+(List.filter (fun i=>i.1 !=(12:Int)) (List.drop (k+1) t)).length by omega]
    exact this
   ·exact ih n (by omega)
 have:=loop 0 (Nat.zero_le _) 0 (Nat.le_refl _)
 unfold Zm5 Zhn
 simpa using this
end Go.Ev
end

section
open Go Go.Ev
namespace Go.Ev
noncomputable section
noncomputable def ZuF:Run:=entG Zd4 ZjH (fun a=>Zkn a.1) (fun a=>Zhn a.1)
theorem ZBc:EntOK Go.Proofs.Tryz.prog 82 ZuF:=ZM (tb:=Znc) (c:=Zkg) ZBf (by kernel_rfl) (by kernel_rfl) (by kernel_rfl) (fun a=>by kernel_rfl) fun ⟨t,_⟩ hk=>Zm (c:=Zkg) (K:=fun v=>(ZjH v,tps (toForms Zd4 (t,())))) (S:=ZdC t) (by kernel_rfl) (ZA3 t) (ZBF t) (ZEH t hk)
end
end Go.Ev
end

section
open Go Go.Ev
namespace Go.Ev
noncomputable section
def Zd8:Sig:=[(true,Zc),(true,Zh)]
noncomputable def Zpa:Tbl:=[]
theorem ZAy:∀p∈Zpa,EntOK Go.Proofs.Tryz.prog p.1 p.2:=Zt
noncomputable def ZjC:Code:=Go.Proofs.Tryz.f84.body.getD .skip
def Zm6:Tb:=[(5,⟨[2,3,23],[]⟩)]
inductive ZhD where | l5 (h:Bool)
def ZjJ (p:El Zc) (o:El Zh):ZhD→JT ZhD (Int) |.l5 h=>.br h (.leaf (7:Int)) (.br (o.1==(3:Int)) (.br ((decide ((0:Int)≤o.2.2.1))&&(decide (o.2.2.1 < (Int.ofNat (List.length p.1))))) (.br (decide (o.2.2.2≥(List.getD p.1 (Int.toNat o.2.2.1) (dflt Zx)).2.1)) (.leaf (8:Int)) (.leaf (0:Int))) (.no)) (.leaf (0:Int)))
def Zna (p:El Zc) (o:El Zh):JT ZhD (Int):=.br (o.1 !=(3:Int)) (.br (o.1 !=(4:Int)) (.leaf (0:Int)) (.br (decide (o.2.2.1 < (0:Int))) (.jmp (.l5 true)) (.jmp (.l5 (decide (o.2.2.1≥(Int.ofNat (List.length p.1)))))))) (.br (decide (o.2.2.1 < (0:Int))) (.jmp (.l5 true)) (.jmp (.l5 (decide (o.2.2.1≥(Int.ofNat (List.length p.1)))))))
def ZdO (p:El Zc) (o:El Zh) (h:Bool):Int:=bif h then (7:Int) else bif (o.1==(3:Int)) then bif ((decide ((0:Int)≤o.2.2.1))&&(decide (o.2.2.1 < (Int.ofNat (List.length p.1))))) then bif (decide (o.2.2.2≥(List.getD p.1 (Int.toNat o.2.2.1) (dflt Zx)).2.1)) then (8:Int) else (0:Int) else (0:Int) else (0:Int)
def ZdP (p:El Zc) (o:El Zh) (h:Bool):Bool:=bif h then true else bif (o.1==(3:Int)) then bif ((decide ((0:Int)≤o.2.2.1))&&(decide (o.2.2.1 < (Int.ofNat (List.length p.1))))) then bif (decide (o.2.2.2≥(List.getD p.1 (Int.toNat o.2.2.1) (dflt Zx)).2.1)) then true else true else false else true
theorem Zgc (p:El Zc) (o:El Zh) (h:Bool) (hk:ZdP p o h=true):Goes (ZjJ p o) (.jmp (.l5 h)) (ZdO p o h):=Goes.jmp (Goes.brk hk (fun hk=>Goes.leaf) (fun hk=>Goes.brk hk (fun hk=>Goes.brk hk (fun hk=>Goes.brk hk (fun hk=>Goes.leaf) (fun hk=>Goes.leaf)) (fun hk=>Goes.nok hk)) (fun hk=>Goes.leaf)))
def ZuN (p:El Zc) (o:El Zh):Int:=bif (o.1 !=(3:Int)) then bif (o.1 !=(4:Int)) then (0:Int) else bif (decide (o.2.2.1 < (0:Int))) then ZdO p o true else ZdO p o (decide (o.2.2.1≥(Int.ofNat (List.length p.1)))) else bif (decide (o.2.2.1 < (0:Int))) then ZdO p o true else ZdO p o (decide (o.2.2.1≥(Int.ofNat (List.length p.1))))
def Zs5 (p:El Zc) (o:El Zh):Bool:=bif (o.1 !=(3:Int)) then bif (o.1 !=(4:Int)) then true else bif (decide (o.2.2.1 < (0:Int))) then ZdP p o true else ZdP p o (decide (o.2.2.1≥(Int.ofNat (List.length p.1)))) else bif (decide (o.2.2.1 < (0:Int))) then ZdP p o true else ZdP p o (decide (o.2.2.1≥(Int.ofNat (List.length p.1))))
theorem ZAw (p:El Zc) (o:El Zh) (hk:Zs5 p o=true):Goes (ZjJ p o) (Zna p o) (ZuN p o):=Goes.brk hk (fun hk=>Goes.brk hk (fun hk=>Goes.leaf) (fun hk=>Goes.brk hk (fun hk=>Zgc p o true hk) (fun hk=>Zgc p o (decide (o.2.2.1≥(Int.ofNat (List.length p.1)))) hk))) (fun hk=>Goes.brk hk (fun hk=>Zgc p o true hk) (fun hk=>Zgc p o (decide (o.2.2.1≥(Int.ofNat (List.length p.1)))) hk))
def ZjG:Int→AV:=fun (r:Int)=>.d (.int .i64) r
def ZdK (p:El Zc) (o:El Zh):ZhD→Nat×St |.l5 h=>(5,⟨mkTm 39 [(2,.pt 3 0 0),(3,.pt 4 0 0),(23,.d .bool h)],[(3,0,.box 26 [.d (.sl Zx) p.1,.d (.sl (.sl Za)) p.2] none),(4,0,.box 47 [.d (.int .i64) o.1,.d (.int .i64) o.2.1,.d (.int .i64) o.2.2.1,.d (.int .i64) o.2.2.2] none)]⟩)
theorem ZAN (p:El Zc) (o:El Zh) (L:Lt):entryA Go.Proofs.Tryz.prog (clOf Zpa) Zm6 Go.Proofs.Tryz.f84 ZjC L (toForms Zd8 (p,o,()))=(Zna p o).run (fun v=>some (ZjG v,tps (toForms Zd8 (p,o,())))) fun j=>L (ZdK p o j).1 (ZdK p o j).2:=by kernel_rfl
theorem ZBd (p:El Zc) (o:El Zh):∀(L:Lt) (j:ZhD),procOf (procsF Go.Proofs.Tryz.prog (clOf Zpa) Zm6 Go.Proofs.Tryz.f84 ZjC (toForms Zd8 (p,o,()))) (ZdK p o j).1 L (ZdK p o j).2=(ZjJ p o j).run (fun v=>some (ZjG v,tps (toForms Zd8 (p,o,())))) fun j=>L (ZdK p o j).1 (ZdK p o j).2 | L,.l5 h=>by kernel_rfl
end
end Go.Ev
end

section
open Go
namespace Go.Ev
def Zbg (p:El Zc) (o:El Zh):Int:=placeC p o
theorem ZMR (len:Nat) (size:Int→Int) (k s n:Int):
 (bif (k !=(3:Int)) then
  bif (k !=(4:Int)) then
   (0:Int)
  else bif (decide (s < (0:Int))) then (7:Int)
  else bif (decide (s≥(Int.ofNat len))) then
  (7:Int)
 else bif (k==(3:Int)) then
  bif ((decide ((0:Int)≤s))&&(decide (s < (Int.ofNat len)))) then
   bif (decide (n≥size s)) then
    (8:Int)
   else (0:Int)
  else (0:Int)
 else (0:Int)
 else bif (decide (s < (0:Int))) then (7:Int)
  else bif (decide (s≥(Int.ofNat len))) then
  (7:Int)
 else bif (k==(3:Int)) then
  bif ((decide ((0:Int)≤s))&&(decide (s < (Int.ofNat len)))) then
   bif (decide (n≥size s)) then
    (8:Int)
   else (0:Int)
  else (0:Int)
 else (0:Int))=placeN len size k s n:=by
 unfold placeN
 by_cases h3:k=3
 ·subst h3
  by_cases hs:s < 0
  ·simp[hs]
  by_cases hl:(len:Int)≤s
  ·simp[hs,hl]
  have h1:0≤s:=by omega
  have h2:s < (len:Int):=by omega
  by_cases hn:size s≤n
  ·simp[hs,hl,hn,h1,h2]
  ·simp[hs,hl,hn,h1,h2]
 by_cases h4:k=4
 ·subst h4
  by_cases hs:s < 0
  ·simp[hs]
  by_cases hl:(len:Int)≤s
  ·simp[hs,hl]
  simp[hs,hl]
 have e3:(k !=(3:Int))=true:=by simp[h3]
 have e4:(k !=(4:Int))=true:=by simp[h4]
 rw[e3,e4]
 simp[h3,h4]
theorem ZNk (len:Nat) (size:Int→Int) (k s n:Int):
 (bif (k !=(3:Int)) then
  bif (k !=(4:Int)) then
   true
  else bif (decide (s < (0:Int))) then true
  else bif (decide (s≥(Int.ofNat len))) then
  true
 else bif (k==(3:Int)) then
  bif ((decide ((0:Int)≤s))&&(decide (s < (Int.ofNat len)))) then
   bif (decide (n≥size s)) then
    true
   else true
  else false
 else true
 else bif (decide (s < (0:Int))) then true
  else bif (decide (s≥(Int.ofNat len))) then
  true
 else bif (k==(3:Int)) then
  bif ((decide ((0:Int)≤s))&&(decide (s < (Int.ofNat len)))) then
   bif (decide (n≥size s)) then
    true
   else true
  else false
 else true)=true:=by
 by_cases h3:k=3
 ·subst h3
  by_cases hs:s < 0
  ·simp[hs]
  by_cases hl:(len:Int)≤s
  ·simp[hs,hl]
  have h1:0≤s:=by omega
  have h2:s < (len:Int):=by omega
  by_cases hn:size s≤n
  ·simp[hs,hl,hn,h1,h2]
  ·simp[hs,hl,hn,h1,h2]
 by_cases h4:k=4
 ·subst h4
  by_cases hs:s < 0
  ·simp[hs]
  by_cases hl:(len:Int)≤s
  ·simp[hs,hl]
  simp[hs,hl]
 have e3:(k !=(3:Int))=true:=by simp[h3]
 have e4:(k !=(4:Int))=true:=by simp[h4]
 rw[e3,e4]
 simp[h3,h4]
theorem ZDl (p:El Zc) (o:El Zh):Goes (ZjJ p o) (Zna p o) (Zbg p o):=by
 have hk:Zs5 p o=true:=ZNk p.1.length (fun s=>(List.getD p.1 s.toNat (dflt Zx)).2.1) o.1 o.2.2.1 o.2.2.2
 have he:ZuN p o=Zbg p o:=ZMR p.1.length (fun s=>(List.getD p.1 s.toNat (dflt Zx)).2.1) o.1 o.2.2.1 o.2.2.2
 rw[←he]
 exact ZAw p o hk
end Go.Ev
end

section
open Go Go.Ev
namespace Go.Ev
noncomputable section
noncomputable def Zuy:Run:=entT Zd8 ZjG (fun a=>Zbg a.1 a.2.1)
theorem ZBs:EntOK Go.Proofs.Tryz.prog 84 Zuy:=Zav (tb:=Zm6) (c:=ZjC) ZAy (by kernel_rfl) (by kernel_rfl) (by kernel_rfl) (fun a=>by kernel_rfl) fun ⟨p,o,_⟩=>Zm (c:=ZjC) (K:=fun v=>(ZjG v,tps (toForms Zd8 (p,o,())))) (S:=ZdK p o) (by kernel_rfl) (ZAN p o) (ZBd p o) (ZDl p o)
end
end Go.Ev
end

section
open Go Go.Ev
namespace Go.Ev
noncomputable section
def Zdb:Sig:=[(true,Zc),(true,(.sl Za))]
noncomputable def Znd:Tbl:=[(82,ZuF),(54,Zkh),(83,Zgv),(84,Zuy),(85,ZtQ)]
theorem ZAu:∀p∈Znd,EntOK Go.Proofs.Tryz.prog p.1 p.2:=Zg ZBc (Zg ZmQ (Zg Zhh (Zg ZBs (Zg ZwM (Zt)))))
noncomputable def ZiN:Code:=Go.Proofs.Tryz.f55.body.getD .skip
def Zk3:Tb:=[(7,⟨[2,3,5,21,22,23,75,83],[]⟩),(14,⟨[2,3,5,7,21,22,23,28,29,30,75,83],[]⟩),(38,⟨[5,87,88,89],[]⟩)]
inductive ZfX where | l7 (h:Int) (seen:List (ByteArray×Bool)) | l14 (h:List ByteArray) (h1:Int) (i:Int) (i1:Bool) (i2:Int) (i3:Int) (i4:Int) (i5:Int) (i6:Int) (i7:Int) (i8:Int) (i9:Int) (i10:Int) (i11:ByteArray) (i12:List ByteArray) (h2:Int) (seen:List (ByteArray×Bool)) (h3:Int) | l38 (h:Int) (seen:List (ByteArray×Bool))
def Za3 (p:El Zc) (t:List (El Za)):ZfX→JT ZfX (Int) |.l7 h seen=>.br (decide (h < (Int.ofNat (List.length t)))) (.br ((decide ((0:Int)≤h))&&(decide (h < (Int.ofNat (List.length t))))) (.jmp (.l14 (List.getD t (Int.toNat h) (dflt Za)).2.2.2.2.2.2 (Int.ofNat (List.length (List.getD t (Int.toNat h) (dflt Za)).2.2.2.2.2.2)) (List.getD t (Int.toNat h) (dflt Za)).1 (List.getD t (Int.toNat h) (dflt Za)).2.1 (List.getD t (Int.toNat h) (dflt Za)).2.2.1 (List.getD t (Int.toNat h) (dflt Za)).2.2.2.1.1 (List.getD t (Int.toNat h) (dflt Za)).2.2.2.1.2.1 (List.getD t (Int.toNat h) (dflt Za)).2.2.2.1.2.2.1 (List.getD t (Int.toNat h) (dflt Za)).2.2.2.1.2.2.2 (List.getD t (Int.toNat h) (dflt Za)).2.2.2.2.1.1 (List.getD t (Int.toNat h) (dflt Za)).2.2.2.2.1.2.1 (List.getD t (Int.toNat h) (dflt Za)).2.2.2.2.1.2.2.1 (List.getD t (Int.toNat h) (dflt Za)).2.2.2.2.1.2.2.2 (List.getD t (Int.toNat h) (dflt Za)).2.2.2.2.2.1 (List.getD t (Int.toNat h) (dflt Za)).2.2.2.2.2.2 (0:Int) seen h)) (.no)) (.br ((Int.ofNat (List.length t))==(0:Int)) (.leaf (9:Int)) (.br ((decide ((0:Int)≤(IntKind.i64.wrap ((Int.ofNat (List.length t)) - (1:Int)))))&&(decide ((IntKind.i64.wrap ((Int.ofNat (List.length t)) - (1:Int))) < (Int.ofNat (List.length t))))) (.br ((List.getD t (Int.toNat (IntKind.i64.wrap ((Int.ofNat (List.length t)) - (1:Int)))) (dflt Za)).1 !=(10:Int)) (.br ((decide ((0:Int)≤(IntKind.i64.wrap ((Int.ofNat (List.length t)) - (1:Int)))))&&(decide ((IntKind.i64.wrap ((Int.ofNat (List.length t)) - (1:Int))) < (Int.ofNat (List.length t))))) (.br ((List.getD t (Int.toNat (IntKind.i64.wrap ((Int.ofNat (List.length t)) - (1:Int)))) (dflt Za)).1 !=(14:Int)) (.leaf (9:Int)) (.jmp (.l38 (0:Int) seen))) (.no)) (.jmp (.l38 (0:Int) seen))) (.no))) |.l14 h h1 i i1 i2 i3 i4 i5 i6 i7 i8 i9 i10 i11 i12 h2 seen h3=>.br (decide (h2 < h1)) (.br ((decide ((0:Int)≤h2))&&(decide (h2 < (Int.ofNat (List.length h))))) (.br (Zaa (List.getD h (Int.toNat h2) (dflt .str))) (.br (! (ZaL (List.getD h (Int.toNat h2) (dflt .str)))) (.leaf (3:Int)) (.br (Option.getD (mget (kt:=.str) (List.getD h (Int.toNat h2) (dflt .str)) seen) false) (.leaf (6:Int)) (.jmp (.l14 h h1 i i1 i2 i3 i4 i5 i6 i7 i8 i9 i10 i11 i12 (IntKind.i64.wrap (h2+(1:Int))) (mput (kt:=.str) (List.getD h (Int.toNat h2) (dflt .str)) true seen) h3)))) (.no)) (.no)) (.br (ZN (i,(i1,(i2,((i3,(i4,(i5,i6))),((i7,(i8,(i9,i10))),(i11,i12))))))) (.br ((Zw (i,(i1,(i2,((i3,(i4,(i5,i6))),((i7,(i8,(i9,i10))),(i11,i12)))))))==(0:Int)) (.br ((Zbg p (i3,(i4,(i5,i6))))==(0:Int)) (.br ((Zbg p (i7,(i8,(i9,i10)))) !=(0:Int)) (.leaf (Zbg p (i7,(i8,(i9,i10))))) (.jmp (.l7 (IntKind.i64.wrap (h3+(1:Int))) seen))) (.br ((Zbg p (i3,(i4,(i5,i6)))) !=(0:Int)) (.leaf (Zbg p (i3,(i4,(i5,i6))))) (.jmp (.l7 (IntKind.i64.wrap (h3+(1:Int))) seen)))) (.br ((Zw (i,(i1,(i2,((i3,(i4,(i5,i6))),((i7,(i8,(i9,i10))),(i11,i12)))))))==(0:Int)) (.br ((Zbg p (i7,(i8,(i9,i10)))) !=(0:Int)) (.leaf (Zbg p (i7,(i8,(i9,i10))))) (.jmp (.l7 (IntKind.i64.wrap (h3+(1:Int))) seen))) (.br ((Zw (i,(i1,(i2,((i3,(i4,(i5,i6))),((i7,(i8,(i9,i10))),(i11,i12))))))) !=(0:Int)) (.leaf (Zw (i,(i1,(i2,((i3,(i4,(i5,i6))),((i7,(i8,(i9,i10))),(i11,i12)))))))) (.jmp (.l7 (IntKind.i64.wrap (h3+(1:Int))) seen))))) (.no)) |.l38 h seen=>.br (decide (h < (Int.ofNat (List.length t)))) (.br ((decide ((0:Int)≤h))&&(decide (h < (Int.ofNat (List.length t))))) (.br (Zdv (List.getD t (Int.toNat h) (dflt Za))) (.br (Zaw (List.getD t (Int.toNat h) (dflt Za))).2 (.br (! (Option.getD (mget (kt:=.str) (List.getD t (Int.toNat h) (dflt Za)).2.2.2.2.2.1 seen) false)) (.leaf (7:Int)) (.jmp (.l38 (IntKind.i64.wrap (h+(1:Int))) seen))) (.jmp (.l38 (IntKind.i64.wrap (h+(1:Int))) seen))) (.no)) (.no)) (.leaf (0:Int))
def Zlq (p:El Zc) (t:List (El Za)):JT ZfX (Int):=.br (Zkn t) (.br (decide ((Zhn t) > (4096:Int))) (.leaf (10:Int)) (.jmp (.l7 (0:Int) []))) (.no)
def ZiR:Int→AV:=fun (r:Int)=>.d (.int .i64) r
def ZcG (p:El Zc) (t:List (El Za)):ZfX→Nat×St |.l7 h seen=>(7,⟨mkTm 107 [(2,.pt 3 0 0),(3,.pt 4 0 0),(5,.mp 6 0),(21,.d (.sl Za) t),(22,.d (.int .i64) (Int.ofNat (List.length t))),(23,.d (.int .i64) h)],[(3,0,.box 26 [.d (.sl Zx) p.1,.d (.sl (.sl Za)) p.2] none),(4,0,.box 33 [.d (.sl Za) t] none),(6,0,.map .str .bool seen)]⟩) |.l14 h h1 i i1 i2 i3 i4 i5 i6 i7 i8 i9 i10 i11 i12 h2 seen h3=>(14,⟨mkTm 107 [(2,.pt 3 0 0),(3,.pt 4 0 0),(5,.mp 6 0),(7,.pt 8 0 0),(21,.d (.sl Za) t),(22,.d (.int .i64) (Int.ofNat (List.length t))),(23,.d (.int .i64) h3),(28,.d (.sl .str) h),(29,.d (.int .i64) h1),(30,.d (.int .i64) h2)],[(3,0,.box 26 [.d (.sl Zx) p.1,.d (.sl (.sl Za)) p.2] none),(4,0,.box 33 [.d (.sl Za) t] none),(6,0,.map .str .bool seen),(8,0,.box 50 [.d (.int .i64) i,.d .bool i1,.d (.int .i64) i2,.d (.int .i64) i3,.d (.int .i64) i4,.d (.int .i64) i5,.d (.int .i64) i6,.d (.int .i64) i7,.d (.int .i64) i8,.d (.int .i64) i9,.d (.int .i64) i10,.d .str i11,.d (.sl .str) i12] none)]⟩) |.l38 h seen=>(38,⟨mkTm 107 [(5,.mp 6 0),(87,.d (.sl Za) t),(88,.d (.int .i64) (Int.ofNat (List.length t))),(89,.d (.int .i64) h)],[(6,0,.map .str .bool seen)]⟩)
theorem Zzo (p:El Zc) (t:List (El Za)) (L:Lt):entryA Go.Proofs.Tryz.prog (clOf Znd) Zk3 Go.Proofs.Tryz.f55 ZiN L (toForms Zdb (p,t,()))=(Zlq p t).run (fun v=>some (ZiR v,tps (toForms Zdb (p,t,())))) fun j=>L (ZcG p t j).1 (ZcG p t j).2:=by kernel_rfl
theorem Zzf (p:El Zc) (t:List (El Za)):∀(L:Lt) (j:ZfX),procOf (procsF Go.Proofs.Tryz.prog (clOf Znd) Zk3 Go.Proofs.Tryz.f55 ZiN (toForms Zdb (p,t,()))) (ZcG p t j).1 L (ZcG p t j).2=(Za3 p t j).run (fun v=>some (ZiR v,tps (toForms Zdb (p,t,())))) fun j=>L (ZcG p t j).1 (ZcG p t j).2 | L,.l7 h seen=>by kernel_rfl | L,.l14 h h1 i i1 i2 i3 i4 i5 i6 i7 i8 i9 i10 i11 i12 h2 seen h3=>by kernel_rfl | L,.l38 h seen=>by kernel_rfl
end
end Go.Ev
end

section
open Go
namespace Go.Ev
def ZfV (p:El Zc) (t:List (El Za)):Int:=threadC p t
def ZiQ (p:El Zc) (t:List (El Za)):Bool:=smallThread t
theorem ZBh (p:El Zc) (t:List (El Za)) (hk:ZiQ p t=true):Goes (Za3 p t) (Zlq p t) (ZfV p t):=by
 have hS:=smallT hk
 have hn:=hS.len
 have jmps:∀m seen,Seen m seen→(∀i∈t,Zw i=0)→∀k,k≤t.length→Goes (Za3 p t) (.jmp (.l38 (k:Int) m)) (jumpC seen (t.drop k)):=by
  intro m seen hm hr
  refine down ?_ fun k hk ih=>?_
  ·rw[Zi]
   simp only[Za3,Ze,Zy (Nat.lt_irrefl _),ZQ,List.drop_length]
   simp[jumpC]
  ·have hmem:t[k]∈t:=List.getElem_mem hk
   have hto:=hS.to _ hmem
   rw[Zi]
   simp only[Za3,Ze,ZS hk,nng,Bool.and_self,if_true,Int.toNat_natCast,ZH hk,Zr (k:=k) (by omega),ZMp hto,ZN4 hto (hr _ hmem),hm t[k].2.2.2.2.2.1]
   rw[ZP hk]
   unfold jumpC
   by_cases h1:((t[k].1==(10:Int)) || (t[k].1==(11:Int)))=true
   ·rw[if_pos h1,if_pos h1]
    by_cases h2:seen.contains t[k].2.2.2.2.2.1=true
    ·rw[if_pos h2,if_neg (by rw[h2];decide)];exact ih
    ·rw[if_neg h2,if_pos (by rw[Bool.eq_false_iff.2 h2];rfl)];exact .leaf
   ·rw[if_neg h1,if_neg h1];exact ih
 have main:∀k,k≤t.length→∀m seen,Seen m seen→(∀i∈t.take k,Zw i=0)→Goes (Za3 p t) (.jmp (.l7 (k:Int) m)) (scanI p (fun seen=>endC t (jumpC seen t)) seen (t.drop k)):=by
  refine down ?_ fun k hk ih=>?_
  ·intro m seen hm hr
   rw[List.take_length] at hr
   have hj:=jmps m seen hm hr 0 (Nat.zero_le _)
   rw[List.drop_zero] at hj
   rw[Zi,List.drop_length]
   unfold scanI
   simp only[Za3,Ze,Zy (Nat.lt_irrefl _)]
   rw[if_neg (by decide)]
   by_cases h0:t.length=0
   ·have:t=[]:=List.eq_nil_of_length_eq_zero h0
    rw[this];simp[ZQ,endC]
   ·have hp:0 < t.length:=by omega
    rw[if_neg (by simp;exact fun e=>h0 (by rw[e];rfl)),ZJo hp]
    rw[show Int.ofNat t.length=(t.length:Int) from rfl,ZIn (k:=t.length) (by omega) hp]
    have hb:(decide (0≤((t.length - 1:Nat):Int))&&decide (((t.length - 1:Nat):Int) < (t.length:Int)))=true:=by simp;omega
    simp only[hb,if_true,Int.toNat_natCast,ZH (show t.length - 1 < t.length by omega)]
    unfold bne
    cases h10:(t[t.length - 1].1==(10:Int)) with
    | true=>simpa using hj
    | false=>
     cases h14:(t[t.length - 1].1==(14:Int)) with
     | true=>simpa using hj
     | false=>simp[ZQ]
  ·intro m seen hm hr
   have hmem:t[k]∈t:=List.getElem_mem hk
   have hto:=hS.to _ hmem
   have hlab:=hS.lab _ hmem
   have hlen:=Nat.lt_of_le_of_lt (Zv8 hmem) hS.labs
   have hr':Zw t[k]=0→∀i∈t.take (k+1),Zw i=0:=fun h i hi=>by
    rw[List.take_add_one,List.getElem?_eq_getElem hk] at hi
    rcases List.mem_append.1 hi with hi | hi
    ·exact hr i hi
    ·rw[Option.toList_some,List.mem_singleton] at hi;rw[hi];exact h
   rw[Zi]
   simp only[Za3,Ze,ZS hk,nng,Bool.and_self,if_true,Int.toNat_natCast,ZH hk]
   rw[ZP hk]
   unfold scanI
   generalize t[k]=i at hto hlab hlen hr'
   obtain ⟨op,lock,cond,⟨ak,ar,ay,an⟩,⟨bk,br,bz,bn⟩,to,ls⟩:=i
   dsimp only at hto hlab hlen hr' ⊢
   have inner:∀j,j≤ls.length→∀m seen,Seen m seen→Goes (Za3 p t) (.jmp (.l14 ls (Int.ofNat ls.length) op lock cond ak ar ay an bk br bz bn to ls (j:Int) m (k:Int))) (scanL seen (fun seen=>if insC p (op,(lock,(cond,((ak,(ar,(ay,an))),((bk,(br,(bz,bn))),(to,ls))))))≠0 then insC p (op,(lock,(cond,((ak,(ar,(ay,an))),((bk,(br,(bz,bn))),(to,ls)))))) else scanI p (fun seen=>endC t (jumpC seen t)) seen (t.drop (k+1))) (ls.drop j)):=by
    refine down ?_ fun j hj ihj=>?_
    ·intro m seen hm
     rw[Zi,List.drop_length]
     unfold scanL
     have hkr:ZN (op,(lock,(cond,((ak,(ar,(ay,an))),((bk,(br,(bz,bn))),(to,ls))))))=true:=hto
     simp only[Za3,Ze,Zy (Nat.lt_irrefl _),hkr,if_true,Zbg,Zr (k:=k) (by omega)]
     rw[if_neg (by decide)]
     unfold insC
     dsimp only
     by_cases hr:Zw (op,(lock,(cond,((ak,(ar,(ay,an))),((bk,(br,(bz,bn))),(to,ls))))))=0
     ·have ih':=ih m seen hm (hr' hr)
      by_cases ha:placeC p (ak,(ar,(ay,an)))=0
      ·by_cases hb:placeC p (bk,(br,(bz,bn)))=0
       ·simp[hr,ha,hb];exact ih'
       ·simp[hr,ha,hb,ZQ]
      ·simp[hr,ha,ZQ]
     ·simp[hr,ZQ]
    ·intro m seen hm
     have hl:=hlab ls[j] (List.getElem_mem hj)
     have hkn:Zaa ls[j]=true:=hl
     rw[Zi]
     simp only[Za3,Ze,ZS hj,nng,Bool.and_self,if_true,Int.toNat_natCast,ZH hj,Zr (k:=j) (by omega),hkn,hm ls[j]]
     rw[ZP hj]
     unfold scanL
     by_cases h1:nameRight ls[j]=false
     ·rw[if_pos h1,if_pos (by show (! nameRight ls[j])=true;rw[h1];rfl)];exact .leaf
     ·rw[if_neg h1,if_neg (by show ¬(! nameRight ls[j])=true;simpa using h1)]
      by_cases h2:seen.contains ls[j]=true
      ·rw[if_pos h2,if_pos h2];exact .leaf
      ·rw[if_neg h2,if_neg h2];exact ihj _ _ (hm.put _)
   have:=inner 0 (Nat.zero_le _) m seen hm
   rw[List.drop_zero] at this
   exact this
 unfold Zlq ZfV
 have hkc:Zkn t=true:=decide_eq_true hn
 simp only[Ze,hkc,if_true]
 unfold threadC Zhn
 by_cases h:4096 < countM t
 ·rw[if_pos (by simp;omega),if_pos h];exact .leaf
 ·rw[if_neg (by simp;omega),if_neg h]
  exact main 0 (Nat.zero_le _) [] [] Seen.nil (fun i hi=>by simp at hi)
end Go.Ev
end

section
open Go Go.Ev
namespace Go.Ev
noncomputable section
noncomputable def Zs7:Run:=entG Zdb ZiR (fun a=>ZiQ a.1 a.2.1) (fun a=>ZfV a.1 a.2.1)
theorem Zz3:EntOK Go.Proofs.Tryz.prog 55 Zs7:=ZM (tb:=Zk3) (c:=ZiN) ZAu (by kernel_rfl) (by kernel_rfl) (by kernel_rfl) (fun a=>by kernel_rfl) fun ⟨p,t,_⟩ hk=>Zm (c:=ZiN) (K:=fun v=>(ZiR v,tps (toForms Zdb (p,t,())))) (S:=ZcG p t) (by kernel_rfl) (Zzo p t) (Zzf p t) (ZBh p t hk)
end
end Go.Ev
end

section
open Go Go.Ev
namespace Go.Ev
noncomputable section
def Zd1:Sig:=[(true,Zc)]
noncomputable def ZoT:Tbl:=[(54,Zkh),(55,Zs7)]
theorem ZBE:∀p∈ZoT,EntOK Go.Proofs.Tryz.prog p.1 p.2:=Zg ZmQ (Zg Zz3 (Zt))
noncomputable def ZjW:Code:=Go.Proofs.Tryz.f31.body.getD .skip
def ZmX:Tb:=[(7,⟨[1,3,21,22,23],[]⟩),(21,⟨[1,59,60,61],[]⟩)]
inductive Zh2 where | l7 (h:Int) (seen:List (ByteArray×Bool)) | l21 (h:Int)
def ZcD (p:El Zc):Zh2→JT Zh2 (Int) |.l7 h seen=>.br (decide (h < (Int.ofNat (List.length p.1)))) (.br ((decide ((0:Int)≤h))&&(decide (h < (Int.ofNat (List.length p.1))))) (.br (Zaa (List.getD p.1 (Int.toNat h) (dflt Zx)).1) (.br (! (ZaL (List.getD p.1 (Int.toNat h) (dflt Zx)).1)) (.leaf (3:Int)) (.br (Option.getD (mget (kt:=.str) (List.getD p.1 (Int.toNat h) (dflt Zx)).1 seen) false) (.leaf (6:Int)) (.br (decide ((List.getD p.1 (Int.toNat h) (dflt Zx)).2.1 < (1:Int))) (.leaf (5:Int)) (.br (decide ((List.getD p.1 (Int.toNat h) (dflt Zx)).2.1 > (64:Int))) (.leaf (5:Int)) (.br (decide ((Int.ofNat (List.length (List.getD p.1 (Int.toNat h) (dflt Zx)).2.2)) > (List.getD p.1 (Int.toNat h) (dflt Zx)).2.1)) (.leaf (5:Int)) (.jmp (.l7 (IntKind.i64.wrap (h+(1:Int))) (mput (kt:=.str) (List.getD p.1 (Int.toNat h) (dflt Zx)).1 true seen)))))))) (.no)) (.no)) (.jmp (.l21 (0:Int))) |.l21 h=>.br (decide (h < (Int.ofNat (List.length p.2)))) (.br ((decide ((0:Int)≤h))&&(decide (h < (Int.ofNat (List.length p.2))))) (.br (ZiQ p (List.getD p.2 (Int.toNat h) (dflt (.sl Za)))) (.br ((ZfV p (List.getD p.2 (Int.toNat h) (dflt (.sl Za)))) !=(0:Int)) (.leaf (ZfV p (List.getD p.2 (Int.toNat h) (dflt (.sl Za))))) (.jmp (.l21 (IntKind.i64.wrap (h+(1:Int)))))) (.no)) (.no)) (.leaf (0:Int))
def Zno (p:El Zc):JT Zh2 (Int):=.br (decide ((Int.ofNat (List.length p.1)) > (64:Int))) (.leaf (10:Int)) (.br (decide ((Int.ofNat (List.length p.2)) > (64:Int))) (.leaf (10:Int)) (.jmp (.l7 (0:Int) [])))
def ZjL:Int→AV:=fun (r:Int)=>.d (.int .i64) r
def Zdn (p:El Zc):Zh2→Nat×St |.l7 h seen=>(7,⟨mkTm 72 [(1,.pt 2 0 0),(3,.mp 4 0),(21,.d (.sl Zx) p.1),(22,.d (.int .i64) (Int.ofNat (List.length p.1))),(23,.d (.int .i64) h)],[(2,0,.box 26 [.d (.sl Zx) p.1,.d (.sl (.sl Za)) p.2] none),(4,0,.map .str .bool seen)]⟩) |.l21 h=>(21,⟨mkTm 72 [(1,.pt 2 0 0),(59,.d (.sl (.sl Za)) p.2),(60,.d (.int .i64) (Int.ofNat (List.length p.2))),(61,.d (.int .i64) h)],[(2,0,.box 26 [.d (.sl Zx) p.1,.d (.sl (.sl Za)) p.2] none)]⟩)
theorem ZAz (p:El Zc) (L:Lt):entryA Go.Proofs.Tryz.prog (clOf ZoT) ZmX Go.Proofs.Tryz.f31 ZjW L (toForms Zd1 (p,()))=(Zno p).run (fun v=>some (ZjL v,tps (toForms Zd1 (p,())))) fun j=>L (Zdn p j).1 (Zdn p j).2:=by kernel_rfl
theorem ZBp (p:El Zc):∀(L:Lt) (j:Zh2),procOf (procsF Go.Proofs.Tryz.prog (clOf ZoT) ZmX Go.Proofs.Tryz.f31 ZjW (toForms Zd1 (p,()))) (Zdn p j).1 L (Zdn p j).2=(ZcD p j).run (fun v=>some (ZjL v,tps (toForms Zd1 (p,())))) fun j=>L (Zdn p j).1 (Zdn p j).2 | L,.l7 h seen=>by kernel_rfl | L,.l21 h=>by kernel_rfl
end
end Go.Ev
end

section
open Go
namespace Go.Ev
def ZbB (p:El Zc):Int:=checkC p
def Za6 (p:El Zc):Bool:=smallProg p
theorem ZEI (p:El Zc) (hk:Za6 p=true):Goes (ZcD p) (Zno p) (ZbB p):=by
 have hth:∀t∈p.2,smallThread t=true:=by
  unfold Za6 smallProg at hk
  simp only[Bool.and_eq_true,List.all_eq_true] at hk
  exact hk.2
 have hsy:∀s∈p.1,smallText s.1=true:=by
  unfold Za6 smallProg at hk
  simp only[Bool.and_eq_true,List.all_eq_true] at hk
  exact hk.1
 obtain ⟨sy,th⟩:=p
 dsimp only at hth hsy
 have ths:th.length≤64→∀k,k≤th.length→Goes (ZcD (sy,th)) (.jmp (.l21 (k:Int))) (thsC (sy,th) (th.drop k)):=by
  intro hn
  refine down ?_ fun k hk ih=>?_
  ·rw[Zi]
   simp only[ZcD,Ze,Zy (Nat.lt_irrefl _),ZQ,List.drop_length]
   simp[thsC]
  ·have hkt:ZiQ (sy,th) th[k]=true:=hth _ (List.getElem_mem hk)
   rw[Zi]
   simp only[ZcD,Ze,ZS hk,nng,Bool.and_self,if_true,Int.toNat_natCast,ZH hk,Zr (k:=k) (by omega),hkt]
   rw[ZP hk]
   unfold thsC
   show (if (threadC (sy,th) th[k] !=0)=true then _ else _)
   by_cases h:threadC (sy,th) th[k]=0
   ·rw[if_neg (by simp[h]),if_neg (by simp[h])];exact ih
   ·rw[if_pos (by simp[h]),if_pos h];exact .leaf
 have main:sy.length≤64→th.length≤64→∀k,k≤sy.length→∀m seen,Seen m seen→Goes (ZcD (sy,th)) (.jmp (.l7 (k:Int) m)) (symsC (thsC (sy,th) th) seen (sy.drop k)):=by
  intro hn hm
  refine down ?_ fun k hk ih=>?_
  ·intro m seen hs
   rw[Zi,List.drop_length]
   unfold symsC
   simp only[ZcD,Ze,Zy (Nat.lt_irrefl _)]
   rw[if_neg (by decide)]
   simpa using ths hm 0 (Nat.zero_le _)
  ·intro m seen hs
   have hkn:Zaa sy[k].1=true:=hsy _ (List.getElem_mem hk)
   rw[Zi]
   simp only[ZcD,Ze,ZS hk,nng,Bool.and_self,if_true,Int.toNat_natCast,ZH hk,Zr (k:=k) (by omega),hkn,hs sy[k].1]
   rw[ZP hk]
   unfold symsC
   generalize sy[k]=s at*
   obtain ⟨nm,size,init⟩:=s
   dsimp only
   change Int at size
   by_cases h1:nameRight nm=false
   ·rw[if_pos h1,if_pos (by show (! nameRight nm)=true;rw[h1];rfl)];exact .leaf
   rw[if_neg h1,if_neg (by show ¬(! nameRight nm)=true;simpa using h1)]
   by_cases h2:seen.contains nm=true
   ·rw[if_pos h2,if_pos h2];exact .leaf
   rw[if_neg h2,if_neg h2]
   by_cases h3:size < 1
   ·rw[if_pos (decide_eq_true h3),if_pos (.inl h3)];exact .leaf
   rw[if_neg (by simpa using h3)]
   by_cases h4:64 < size
   ·rw[if_pos (decide_eq_true h4),if_pos (.inr (.inl h4))];exact .leaf
   rw[if_neg (by simpa using h4)]
   by_cases h5:size < (List.length init:Int)
   ·rw[if_pos (show decide (Int.ofNat (List.length init) > size)=true from decide_eq_true h5),if_pos (.inr (.inr h5))];exact .leaf
   rw[if_neg (show ¬decide (Int.ofNat (List.length init) > size)=true by simpa using h5),if_neg (by rintro (h | h | h) <;> contradiction)]
   exact ih _ _ (hs.put nm)
 unfold Zno ZbB checkC
 simp only[Ze]
 by_cases h:64 < sy.length
 ·rw[if_pos (by simp;omega),if_pos (.inl h)];exact .leaf
 rw[if_neg (by simp;omega)]
 by_cases h2:64 < th.length
 ·rw[if_pos (by simp;omega),if_pos (.inr h2)];exact .leaf
 rw[if_neg (by simp;omega),if_neg (by rintro (h | h) <;> contradiction)]
 exact main (by omega) (by omega) 0 (Nat.zero_le _) [] [] Seen.nil
end Go.Ev
end

section
open Go Go.Ev
namespace Go.Ev
noncomputable section
noncomputable def ZjN:Run:=entG Zd1 ZjL (fun a=>Za6 a.1) (fun a=>ZbB a.1)
theorem Zm9:EntOK Go.Proofs.Tryz.prog 31 ZjN:=ZM (tb:=ZmX) (c:=ZjW) ZBE (by kernel_rfl) (by kernel_rfl) (by kernel_rfl) (fun a=>by kernel_rfl) fun ⟨p,_⟩ hk=>Zm (c:=ZjW) (K:=fun v=>(ZjL v,tps (toForms Zd1 (p,())))) (S:=Zdn p) (by kernel_rfl) (ZAz p) (ZBp p) (ZEI p hk)
end
end Go.Ev
end

section
open Go Go.Ev
namespace Go.Ev
noncomputable section
def Zhj:Sig:=[(true,Zc),(false,(.int .i64))]
noncomputable def ZtF:Tbl:=[(31,ZjN)]
theorem ZHb:∀p∈ZtF,EntOK Go.Proofs.Tryz.prog p.1 p.2:=Zg Zm9 (Zt)
noncomputable def ZoW:Code:=Go.Proofs.Tryz.f14.body.getD .skip
def ZrZ:Tb:=[]
def ZAq (p:El Zc) (t:Int):Empty→JT Empty (Bool):=fun j=>nomatch j
def Zw5 (p:El Zc) (t:Int):JT Empty (Bool):=.br (decide (t≥(0:Int))) (.br (decide (t < (Int.ofNat (List.length p.2)))) (.br (Za6 p) (.leaf ((ZbB p)==(0:Int))) (.no)) (.leaf false)) (.leaf false)
def ZbX (p:El Zc) (t:Int):Bool:=bif (decide (t≥(0:Int))) then bif (decide (t < (Int.ofNat (List.length p.2)))) then bif (Za6 p) then ((ZbB p)==(0:Int)) else false else false else false
def ZbO (p:El Zc) (t:Int):Bool:=bif (decide (t≥(0:Int))) then bif (decide (t < (Int.ofNat (List.length p.2)))) then bif (Za6 p) then true else false else true else true
theorem ZII (p:El Zc) (t:Int) (hk:ZbO p t=true):Goes (ZAq p t) (Zw5 p t) (ZbX p t):=Goes.brk hk (fun hk=>Goes.brk hk (fun hk=>Goes.brk hk (fun hk=>Goes.leaf) (fun hk=>Goes.nok hk)) (fun hk=>Goes.leaf)) (fun hk=>Goes.leaf)
def Zpq:Bool→AV:=fun (r:Bool)=>.d .bool r
def ZgK (p:El Zc) (t:Int):Empty→Nat×St:=fun j=>nomatch j
theorem ZH7 (p:El Zc) (t:Int) (L:Lt):entryA Go.Proofs.Tryz.prog (clOf ZtF) ZrZ Go.Proofs.Tryz.f14 ZoW L (toForms Zhj (p,t,()))=(Zw5 p t).run (fun v=>some (Zpq v,tps (toForms Zhj (p,t,())))) fun j=>L (ZgK p t j).1 (ZgK p t j).2:=by kernel_rfl
theorem ZIa (p:El Zc) (t:Int):∀(L:Lt) (j:Empty),procOf (procsF Go.Proofs.Tryz.prog (clOf ZtF) ZrZ Go.Proofs.Tryz.f14 ZoW (toForms Zhj (p,t,()))) (ZgK p t j).1 L (ZgK p t j).2=(ZAq p t j).run (fun v=>some (Zpq v,tps (toForms Zhj (p,t,())))) fun j=>L (ZgK p t j).1 (ZgK p t j).2:=fun L j=>nomatch j
noncomputable def Zoo:Run:=entG Zhj Zpq (fun a=>ZbO a.1 a.2.1) (fun a=>ZbX a.1 a.2.1)
theorem ZqG:EntOK Go.Proofs.Tryz.prog 14 Zoo:=ZM (tb:=ZrZ) (c:=ZoW) ZHb (by kernel_rfl) (by kernel_rfl) (by kernel_rfl) (fun a=>by kernel_rfl) fun ⟨p,t,_⟩ hk=>Zm (c:=ZoW) (K:=fun v=>(Zpq v,tps (toForms Zhj (p,t,())))) (S:=ZgK p t) (by kernel_rfl) (ZH7 p t) (ZIa p t) (ZII p t hk)
end
end Go.Ev
end

section
open Go Go.Ev
namespace Go.Ev
noncomputable section
def Zio:Sig:=[(true,Zc)]
noncomputable def Zwc:Tbl:=[(31,ZjN),(58,Zrv),(59,ZyJ),(60,ZwS)]
theorem ZJO:∀p∈Zwc,EntOK Go.Proofs.Tryz.prog p.1 p.2:=Zg Zm9 (Zg ZuV (Zg ZFu (Zg ZEr (Zt))))
noncomputable def Zsn:Code:=Go.Proofs.Tryz.f35.body.getD .skip
def ZtK:Tb:=[(7,⟨[3,17,18,19],[(4,134)]⟩),(13,⟨[3,4,17,18,19,25,26,27],[(4,134)]⟩),(hintK,⟨[1],[(1,135)]⟩)]
inductive ZnD where | l7 (h:Int) (out:List (El Zb)) | l13 (h:List (El Za)) (h1:Int) (h2:Int) (out:List (El Zb)) (t:Int) (h3:Int)
def ZfK (p:El Zc):ZnD→JT ZnD (List (El Zb)) |.l7 h out=>.br (decide (h < (Int.ofNat (List.length p.2)))) (.br ((decide ((0:Int)≤h))&&(decide (h < (Int.ofNat (List.length p.2))))) (.jmp (.l13 (List.getD p.2 (Int.toNat h) (dflt (.sl Za))) (Int.ofNat (List.length (List.getD p.2 (Int.toNat h) (dflt (.sl Za))))) (0:Int) out h h)) (.no)) (.leaf out) |.l13 h h1 h2 out t h3=>.br (decide (h2 < h1)) (.br ((decide ((0:Int)≤h2))&&(decide (h2 < (Int.ofNat (List.length h))))) (.br (Zay (List.getD h (Int.toNat h2) (dflt Za))) (.br (ZkF (List.getD h (Int.toNat h2) (dflt Za))) (.br (ZaJ (List.getD h (Int.toNat h2) (dflt Za))).2 (.br (Nat.ble (((List.length out)+1)*40) limit) (.br (ZgO (List.getD h (Int.toNat h2) (dflt Za))) (.br (Zak (List.getD h (Int.toNat h2) (dflt Za))).2 (.br (Nat.ble (((List.length (out++[(t,(h2,((0:Int),((ZaJ (List.getD h (Int.toNat h2) (dflt Za))).1.2.2.1,(false,(Zaj (List.getD h (Int.toNat h2) (dflt Za))))))))]))+1)*40) limit) (.jmp (.l13 h h1 (IntKind.i64.wrap (h2+(1:Int))) ((out++[(t,(h2,((0:Int),((ZaJ (List.getD h (Int.toNat h2) (dflt Za))).1.2.2.1,(false,(Zaj (List.getD h (Int.toNat h2) (dflt Za))))))))])++[(t,(h2,((1:Int),((Zak (List.getD h (Int.toNat h2) (dflt Za))).1.2.2.1,(true,(Zaj (List.getD h (Int.toNat h2) (dflt Za))))))))]) t h3)) (.no)) (.jmp (.l13 h h1 (IntKind.i64.wrap (h2+(1:Int))) (out++[(t,(h2,((0:Int),((ZaJ (List.getD h (Int.toNat h2) (dflt Za))).1.2.2.1,(false,(Zaj (List.getD h (Int.toNat h2) (dflt Za))))))))]) t h3))) (.no)) (.no)) (.br (ZgO (List.getD h (Int.toNat h2) (dflt Za))) (.br (Zak (List.getD h (Int.toNat h2) (dflt Za))).2 (.br (Nat.ble (((List.length out)+1)*40) limit) (.jmp (.l13 h h1 (IntKind.i64.wrap (h2+(1:Int))) (out++[(t,(h2,((0:Int),((Zak (List.getD h (Int.toNat h2) (dflt Za))).1.2.2.1,(true,(Zaj (List.getD h (Int.toNat h2) (dflt Za))))))))]) t h3)) (.no)) (.jmp (.l13 h h1 (IntKind.i64.wrap (h2+(1:Int))) out t h3))) (.no))) (.no)) (.no)) (.no)) (.jmp (.l7 (IntKind.i64.wrap (h3+(1:Int))) out))
def Zub (p:El Zc):JT ZnD (List (El Zb)):=.br (Za6 p) (.br ((ZbB p) !=(0:Int)) (.leaf []) (.jmp (.l7 (0:Int) []))) (.no)
def Zsw:List (El Zb)→AV:=fun (r:List (El Zb))=>.d (.sl Zb) r
def Zh8 (p:El Zc):ZnD→Nat×St |.l7 h out=>(7,⟨mkTm 68 [(3,.own 4 0 none),(17,.d (.sl (.sl Za)) p.2),(18,.d (.int .i64) (Int.ofNat (List.length p.2))),(19,.d (.int .i64) h)],[(4,0,.row 70 Zb out false)]⟩) |.l13 h h1 h2 out t h3=>(13,⟨mkTm 68 [(3,.own 4 0 none),(4,.d (.int .i64) t),(17,.d (.sl (.sl Za)) p.2),(18,.d (.int .i64) (Int.ofNat (List.length p.2))),(19,.d (.int .i64) h3),(25,.d (.sl Za) h),(26,.d (.int .i64) h1),(27,.d (.int .i64) h2)],[(4,0,.row 70 Zb out false)]⟩)
theorem ZIB (p:El Zc) (L:Lt):entryA Go.Proofs.Tryz.prog (clOf Zwc) ZtK Go.Proofs.Tryz.f35 Zsn L (toForms Zio (p,()))=(Zub p).run (fun v=>some (Zsw v,tps (toForms Zio (p,())))) fun j=>L (Zh8 p j).1 (Zh8 p j).2:=by kernel_rfl
theorem ZIS (p:El Zc):∀(L:Lt) (j:ZnD),procOf (procsF Go.Proofs.Tryz.prog (clOf Zwc) ZtK Go.Proofs.Tryz.f35 Zsn (toForms Zio (p,()))) (Zh8 p j).1 L (Zh8 p j).2=(ZfK p j).run (fun v=>some (Zsw v,tps (toForms Zio (p,())))) fun j=>L (Zh8 p j).1 (Zh8 p j).2 | L,.l7 h out=>by kernel_rfl | L,.l13 h h1 h2 out t h3=>by kernel_rfl
end
end Go.Ev
end

section
open Go
namespace Go.Ev
def ZD (p:El Zc):List (El Zb):=ofC p
def ZnT (p:El Zc):Bool:=smallAll p
theorem ZLa (p:El Zc) (hk:ZnT p=true):Goes (ZfK p) (Zub p) (ZD p):=by
 have hA:=smallA hk
 obtain ⟨sy,th⟩:=p
 have hkc:Za6 (sy,th)=true:=hA.prog
 have hlen:th.length < 1073741824:=hA.len
 have htot:total th < 1073741824:=hA.tot
 have main:∀k,k≤th.length→∀out:List (El Zb),out.length+2*total (th.drop k) < 4294967296→Goes (ZfK (sy,th)) (.jmp (.l7 (k:Int) out)) (out++accP k (th.drop k)):=by
  refine down ?_ fun k hk ih=>?_
  ·intro out ho
   rw[Zi]
   simp only[ZfK,Ze,Zy (Nat.lt_irrefl _),ZQ,List.drop_length]
   simp[accP]
  ·intro out ho
   rw[ZBV hk] at ho
   have hS:=smallT (hA.thr _ (List.getElem_mem hk))
   rw[Zi]
   simp only[ZfK,Ze,ZS hk,nng,Bool.and_self,if_true,Int.toNat_natCast,ZH hk]
   rw[ZP hk]
   unfold accP
   generalize th[k]=x at ho hS
   have inner:∀j,j≤List.length x→∀out:List (El Zb),out.length+2*(List.length x - j)+2*total (th.drop (k+1)) < 4294967296→Goes (ZfK (sy,th)) (.jmp (.l13 x (Int.ofNat (List.length x)) (j:Int) out (k:Int) (k:Int))) (out++(accT k j (List.drop j x)++accP (k+1) (th.drop (k+1)))):=by
    refine down ?_ fun j hj ihj=>?_
    ·intro out ho
     rw[Zi]
     simp only[ZfK,Ze,Zy (Nat.lt_irrefl _),Zr (k:=k) (by omega),List.drop_length]
     have:=ih out (by omega)
     simpa[accT] using this
    ·intro out ho
     have hto:=hS.to _ (List.getElem_mem hj)
     obtain ⟨a1,a2,a3,a4⟩:=ZOK hto
     have hx:List.length x < 1099511627776:=hS.len
     rw[Zi]
     have b1:Nat.ble ((out.length+1)*40) limit=true:=ble40 (by omega)
     have b2:∀y:El Zb,Nat.ble (((out++[y]).length+1)*40) limit=true:=fun y=>ble40 (by rw[List.length_append];simp;omega)
     simp only[ZfK,Ze,ZS hj,nng,Bool.and_self,if_true,Int.toNat_natCast,ZH hj,Zr (k:=j) (by omega),a1,a2,a4,b1,b2]
     rw[ZP hj]
     unfold accT accI
     have hs:∀y:List (El Zb),y.length≤2→Goes (ZfK (sy,th)) (.jmp (.l13 x (Int.ofNat (List.length x)) ((j+1:Nat):Int) (out++y) (k:Int) (k:Int))) (out++((y++accT k (j+1) (List.drop (j+1) x))++accP (k+1) (th.drop (k+1)))):=fun y hy=>by
      have:=ihj (out++y) (by rw[List.length_append];omega)
      rw[List.append_assoc] at this
      rw[List.append_assoc]
      exact this
     by_cases hr:(ZaJ x[j]).2=true <;> by_cases hw:(Zak x[j]).2=true
     ·simp only[hr,hw,if_true]
      rw[List.append_assoc out]
      exact hs _ (by simp)
     ·simp only[hr,hw,if_true,if_false]
      exact hs _ (by simp)
     ·simp only[hr,hw,if_true,if_false]
      exact hs _ (by simp)
     ·simp only[hr,hw,if_false]
      have:=hs [] (by simp)
      rw[List.append_nil] at this
      exact this
   exact inner 0 (Nat.zero_le _) out (by omega)
 unfold Zub ZD ofC
 simp only[Ze,hkc,if_true,ZbB]
 by_cases h:checkC (sy,th)=0
 ·rw[if_neg (by simp[h]),if_pos h]
  have:=main 0 (Nat.zero_le _) [] (by simp;omega)
  simpa using this
 ·rw[if_pos (by simp[h]),if_neg h]
  exact .leaf
end Go.Ev
end

section
open Go Go.Ev
namespace Go.Ev
noncomputable section
noncomputable def Zwm:Run:=entG Zio Zsw (fun a=>ZnT a.1) (fun a=>ZD a.1)
theorem Zy0:EntOK Go.Proofs.Tryz.prog 35 Zwm:=ZM (tb:=ZtK) (c:=Zsn) ZJO (by kernel_rfl) (by kernel_rfl) (by kernel_rfl) (fun a=>by kernel_rfl) fun ⟨p,_⟩ hk=>Zm (c:=Zsn) (K:=fun v=>(Zsw v,tps (toForms Zio (p,())))) (S:=Zh8 p) (by kernel_rfl) (ZIB p) (ZIS p) (ZLa p hk)
end
end Go.Ev
end

section
open Go Go.Ev
namespace Go.Ev
noncomputable section
def ZdT:Sig:=[(false,(.sl Zb)),(false,(.int .i64)),(false,.bool)]
noncomputable def Zn7:Tbl:=[]
theorem ZAX:∀p∈Zn7,EntOK Go.Proofs.Tryz.prog p.1 p.2:=Zt
noncomputable def Zj3:Code:=Go.Proofs.Tryz.f36.body.getD .skip
def Znk:Tb:=[(4,⟨[1,2,7,10,11,12],[(8,72)]⟩)]
inductive Zhp where | l4 (h:Int) (out:List Int)
def Zhl (l:List (El Zb)) (t:Int) (write:Bool):Zhp→JT Zhp (List Int) |.l4 h out=>.br (decide (h < (Int.ofNat (List.length l)))) (.br ((decide ((0:Int)≤h))&&(decide (h < (Int.ofNat (List.length l))))) (.br ((List.getD l (Int.toNat h) (dflt Zb)).1==t) (.br ((List.getD l (Int.toNat h) (dflt Zb)).2.2.2.2.1==write) (.br (! (List.getD l (Int.toNat h) (dflt Zb)).2.2.2.2.2) (.br (Nat.ble (((List.length out)+1)*8) limit) (.jmp (.l4 (IntKind.i64.wrap (h+(1:Int))) (out++[h]))) (.no)) (.jmp (.l4 (IntKind.i64.wrap (h+(1:Int))) out))) (.jmp (.l4 (IntKind.i64.wrap (h+(1:Int))) out))) (.jmp (.l4 (IntKind.i64.wrap (h+(1:Int))) out))) (.no)) (.leaf out)
def Zti (l:List (El Zb)) (t:Int) (write:Bool):JT Zhp (List Int):=.jmp (.l4 (0:Int) [])
def ZjY:List Int→AV:=fun (r:List Int)=>.rw 3 (.int .i64) r
def Zdp (l:List (El Zb)) (t:Int) (write:Bool):Zhp→Nat×St |.l4 h out=>(4,⟨mkTm 38 [(1,.d (.int .i64) t),(2,.d .bool write),(7,.own 8 0 none),(10,.d (.sl Zb) l),(11,.d (.int .i64) (Int.ofNat (List.length l))),(12,.d (.int .i64) h)],[(8,0,.row 3 (.int .i64) out false)]⟩)
theorem ZBA (l:List (El Zb)) (t:Int) (write:Bool) (L:Lt):entryA Go.Proofs.Tryz.prog (clOf Zn7) Znk Go.Proofs.Tryz.f36 Zj3 L (toForms ZdT (l,t,write,()))=(Zti l t write).run (fun v=>some (ZjY v,tps (toForms ZdT (l,t,write,())))) fun j=>L (Zdp l t write j).1 (Zdp l t write j).2:=by kernel_rfl
theorem ZBz (l:List (El Zb)) (t:Int) (write:Bool):∀(L:Lt) (j:Zhp),procOf (procsF Go.Proofs.Tryz.prog (clOf Zn7) Znk Go.Proofs.Tryz.f36 Zj3 (toForms ZdT (l,t,write,()))) (Zdp l t write j).1 L (Zdp l t write j).2=(Zhl l t write j).run (fun v=>some (ZjY v,tps (toForms ZdT (l,t,write,())))) fun j=>L (Zdp l t write j).1 (Zdp l t write j).2 | L,.l4 h out=>by kernel_rfl
end
end Go.Ev
end

section
open Go
namespace Go.Ev
def plB (l:List (El Zb)) (t:Int) (w:Bool) (k:Nat):Bool:=((List.getD l k (dflt Zb)).1==t)&&((List.getD l k (dflt Zb)).2.2.2.2.1==w)&& ! (List.getD l k (dflt Zb)).2.2.2.2.2
def ZR (l:List (El Zb)) (t:Int) (write:Bool):List Int:=listOf l.length (plB l t write)
def Zdx (l:List (El Zb)) (t:Int) (write:Bool):Bool:=decide (l.length < 1000000000)
theorem ZCY (l:List (El Zb)) (t:Int) (write:Bool) (hk:Zdx l t write=true):Goes (Zhl l t write) (Zti l t write) (ZR l t write):=by
 have hN:=of_decide_eq_true hk
 have outer:∀k,k≤l.length→∀out:List Int,out.length≤k→out++((List.range' k (l.length - k)).filter (plB l t write)).map (fun k:Nat=>(k:Int))=ZR l t write→
   Goes (Zhl l t write) (.jmp (.l4 (k:Int) out)) (ZR l t write):=by
  refine down ?_ fun k hk ih=>?_
  ·intro out ho he
   rw[Zi,Zhl,Ze,if_neg (by rw[Zy (Nat.lt_irrefl _)];decide)]
   rw[Nat.sub_self] at he
   simp only[List.range'_zero,List.filter_nil,List.map_nil,List.append_nil] at he
   rw[←he]
   exact .leaf
  ·intro out ho he
   have b1:Nat.ble ((out.length+1)*8) limit=true:=Nat.ble_eq_true_of_le (by unfold limit;omega)
   rw[show l.length - k=(l.length - (k+1))+1 by omega,List.range'_succ,List.filter_cons] at he
   rw[Zi,Zhl]
   simp only[Ze,ZS hk,nng,Bool.and_self,if_true,Int.toNat_natCast,b1,Zr (k:=k) (by omega)]
   obtain ⟨x,hx⟩:∃x,List.getD l k (dflt Zb)=x:=⟨_,rfl⟩
   have hp:plB l t write k=((x.1==t)&&(x.2.2.2.2.1==write)&& ! x.2.2.2.2.2):=by unfold plB;rw[hx]
   rw[hp] at he
   rw[hx]
   cases c1:(x.1==t) with
   | false=>
    rw[c1] at he
    exact ih _ (by omega) he
   | true=>
    cases c2:(x.2.2.2.2.1==write) with
    | false=>
     rw[c1,c2] at he
     exact ih _ (by omega) he
    | true=>
     cases c3:(! (show Bool from x.2.2.2.2.2)) with
     | false=>
      have c3':(! x.2.2.2.2.2)=false:=c3
      rw[c1,c2] at he
      simp only[c3',Bool.and_false,Bool.false_eq_true,if_false] at he ⊢
      exact ih _ (by omega) he
     | true=>
      have c3':(! x.2.2.2.2.2)=true:=c3
      rw[c1,c2] at he
      simp only[c3',Bool.and_true,Bool.true_and,if_true,List.map_cons] at he ⊢
      exact ih _ (by simp;omega) (by rw[List.append_assoc];exact he)
 refine outer 0 (Nat.zero_le _) [] (Nat.zero_le _) ?_
 unfold ZR listOf
 rw[List.nil_append,List.range_eq_range']
 rfl
end Go.Ev
end

section
open Go Go.Ev
namespace Go.Ev
noncomputable section
noncomputable def Zu2:Run:=entG ZdT ZjY (fun a=>Zdx a.1 a.2.1 a.2.2.1) (fun a=>ZR a.1 a.2.1 a.2.2.1)
theorem ZBo:EntOK Go.Proofs.Tryz.prog 36 Zu2:=ZM (tb:=Znk) (c:=Zj3) ZAX (by kernel_rfl) (by kernel_rfl) (by kernel_rfl) (fun a=>by kernel_rfl) fun ⟨l,t,write,_⟩ hk=>Zm (c:=Zj3) (K:=fun v=>(ZjY v,tps (toForms ZdT (l,t,write,())))) (S:=Zdp l t write) (by kernel_rfl) (ZBA l t write) (ZBz l t write) (ZCY l t write hk)
end
end Go.Ev
end

section
open Go Go.Ev
namespace Go.Ev
noncomputable section
def Zin:Sig:=[(false,(.int .i64))]
noncomputable def Zv4:Tbl:=[]
theorem ZJn:∀p∈Zv4,EntOK Go.Proofs.Tryz.prog p.1 p.2:=Zt
noncomputable def ZsD:Code:=Go.Proofs.Tryz.f37.body.getD .skip
def Zue:Tb:=[]
def ZCy (n:Int):Empty→JT Empty (Int×List (Int×Int)):=fun j=>nomatch j
def Zzn (n:Int):JT Empty (Int×List (Int×Int)):=.leaf ((maxI n (0:Int)),[])
def Zz (n:Int):Int×List (Int×Int):=((maxI n (0:Int)),[])
theorem ZLm (n:Int):Goes (ZCy n) (Zzn n) (Zz n):=Goes.leaf
def Zso:Int×List (Int×Int)→AV:=fun (r:Int×List (Int×Int))=>.bx 98 [.d (.int .i64) r.1,.mv (.int .i64) (.int .u64) r.2]
def Zik (n:Int):Empty→Nat×St:=fun j=>nomatch j
theorem ZJH (n:Int) (L:Lt):entryA Go.Proofs.Tryz.prog (clOf Zv4) Zue Go.Proofs.Tryz.f37 ZsD L (toForms Zin (n,()))=(Zzn n).run (fun v=>some (Zso v,tps (toForms Zin (n,())))) fun j=>L (Zik n j).1 (Zik n j).2:=by kernel_rfl
theorem ZJR (n:Int):∀(L:Lt) (j:Empty),procOf (procsF Go.Proofs.Tryz.prog (clOf Zv4) Zue Go.Proofs.Tryz.f37 ZsD (toForms Zin (n,()))) (Zik n j).1 L (Zik n j).2=(ZCy n j).run (fun v=>some (Zso v,tps (toForms Zin (n,())))) fun j=>L (Zik n j).1 (Zik n j).2:=fun L j=>nomatch j
noncomputable def Zkq:Run:=entT Zin Zso (fun a=>Zz a.1)
theorem ZkY:EntOK Go.Proofs.Tryz.prog 37 Zkq:=Zav (tb:=Zue) (c:=ZsD) ZJn (by kernel_rfl) (by kernel_rfl) (by kernel_rfl) (fun a=>by kernel_rfl) fun ⟨n,_⟩=>Zm (c:=ZsD) (K:=fun v=>(Zso v,tps (toForms Zin (n,())))) (S:=Zik n) (by kernel_rfl) (ZJH n) (ZJR n) (ZLm n)
end
end Go.Ev
end

section
open Go Go.Ev
namespace Go.Ev
noncomputable section
def Zfh:Sig:=[(true,(.sl Za)),(false,.str)]
noncomputable def Zqp:Tbl:=[]
theorem ZFm:∀p∈Zqp,EntOK Go.Proofs.Tryz.prog p.1 p.2:=Zt
noncomputable def ZlD:Code:=Go.Proofs.Tryz.f87.body.getD .skip
def Zpl:Tb:=[(3,⟨[1,10,11,12],[]⟩),(9,⟨[1,5,10,11,12,18,19,20],[]⟩)]
inductive Zi4 where | l3 (h:Int) | l9 (h:List ByteArray) (h1:Int) (h2:Int) (k:Int) (h3:Int)
def Zdg (t:List (El Za)) (label:ByteArray):Zi4→JT Zi4 (Int) |.l3 h=>.br (decide (h < (Int.ofNat (List.length t)))) (.br ((decide ((0:Int)≤h))&&(decide (h < (Int.ofNat (List.length t))))) (.jmp (.l9 (List.getD t (Int.toNat h) (dflt Za)).2.2.2.2.2.2 (Int.ofNat (List.length (List.getD t (Int.toNat h) (dflt Za)).2.2.2.2.2.2)) (0:Int) h h)) (.no)) (.leaf (-1:Int)) |.l9 h h1 h2 k h3=>.br (decide (h2 < h1)) (.br ((decide ((0:Int)≤h2))&&(decide (h2 < (Int.ofNat (List.length h))))) (.br (eqB (List.getD h (Int.toNat h2) (dflt .str)) label) (.leaf k) (.jmp (.l9 h h1 (IntKind.i64.wrap (h2+(1:Int))) k h3))) (.no)) (.jmp (.l3 (IntKind.i64.wrap (h3+(1:Int)))))
def ZoZ (t:List (El Za)) (label:ByteArray):JT Zi4 (Int):=.jmp (.l3 (0:Int))
def Zmn:Int→AV:=fun (r:Int)=>.d (.int .i64) r
def Zfb (t:List (El Za)) (label:ByteArray):Zi4→Nat×St |.l3 h=>(3,⟨mkTm 30 [(1,.d .str label),(10,.d (.sl Za) t),(11,.d (.int .i64) (Int.ofNat (List.length t))),(12,.d (.int .i64) h)],[]⟩) |.l9 h h1 h2 k h3=>(9,⟨mkTm 30 [(1,.d .str label),(5,.d (.int .i64) k),(10,.d (.sl Za) t),(11,.d (.int .i64) (Int.ofNat (List.length t))),(12,.d (.int .i64) h3),(18,.d (.sl .str) h),(19,.d (.int .i64) h1),(20,.d (.int .i64) h2)],[]⟩)
theorem ZFc (t:List (El Za)) (label:ByteArray) (L:Lt):entryA Go.Proofs.Tryz.prog (clOf Zqp) Zpl Go.Proofs.Tryz.f87 ZlD L (toForms Zfh (t,label,()))=(ZoZ t label).run (fun v=>some (Zmn v,tps (toForms Zfh (t,label,())))) fun j=>L (Zfb t label j).1 (Zfb t label j).2:=by kernel_rfl
theorem ZCQ (t:List (El Za)) (label:ByteArray):∀(L:Lt) (j:Zi4),procOf (procsF Go.Proofs.Tryz.prog (clOf Zqp) Zpl Go.Proofs.Tryz.f87 ZlD (toForms Zfh (t,label,()))) (Zfb t label j).1 L (Zfb t label j).2=(Zdg t label j).run (fun v=>some (Zmn v,tps (toForms Zfh (t,label,())))) fun j=>L (Zfb t label j).1 (Zfb t label j).2 | L,.l3 h=>by kernel_rfl | L,.l9 h h1 h2 k h3=>by kernel_rfl
end
end Go.Ev
end

section
open Go
namespace Go.Ev
def ZaX (t:List (El Za)) (label:ByteArray):Int:=findI label t 0
def Zi5 (t:List (El Za)) (label:ByteArray):Bool:=decide (t.length < 1099511627776)&&t.all fun i=>decide (i.2.2.2.2.2.2.length < 1099511627776)
theorem ZGZ (t:List (El Za)) (label:ByteArray) (hk:Zi5 t label=true):Goes (Zdg t label) (ZoZ t label) (ZaX t label):=by
 unfold Zi5 at hk
 simp only[Bool.and_eq_true,decide_eq_true_eq,List.all_eq_true] at hk
 obtain ⟨hn,hl⟩:=hk
 have loop:∀k,k≤t.length→Goes (Zdg t label) (.jmp (.l3 (k:Int))) (findI label (t.drop k) k):=by
  refine down ?_ fun k hk ih=>?_
  ·rw[Zi]
   simp only[Zdg,Ze,Zy (Nat.lt_irrefl _),ZQ,List.drop_length]
   simp[findI]
  ·have hli:=hl t[k] (List.getElem_mem hk)
   rw[Zi]
   simp only[Zdg,Ze,ZS hk,nng,Bool.and_self,if_true,Int.toNat_natCast,ZH hk]
   rw[ZP hk]
   unfold findI
   generalize t[k].2.2.2.2.2.2=ls at hli
   have inner:∀j,j≤ls.length→Goes (Zdg t label) (.jmp (.l9 ls (Int.ofNat ls.length) (j:Int) (k:Int) (k:Int))) (if (ls.drop j).contains label then (k:Int) else findI label (t.drop (k+1)) (k+1)):=by
    refine down ?_ fun j hj ihj=>?_
    ·rw[Zi]
     simp only[Zdg,Ze,Zy (Nat.lt_irrefl _),Zr (k:=k) (by omega),List.drop_length]
     simpa using ih
    ·rw[Zi]
     simp only[Zdg,Ze,ZS hj,nng,Bool.and_self,if_true,Int.toNat_natCast,ZH hj,Zr (k:=j) (by omega),ZrT]
     rw[ZP hj,List.contains_cons]
     by_cases h:ls[j]=label
     ·rw[if_pos h];subst h;simp[ZQ]
     ·rw[if_neg h,beq_false_of_ne (Ne.symm h),Bool.false_or]
      exact ihj
   simpa using inner 0 (Nat.zero_le _)
 unfold ZoZ ZaX
 simpa using loop 0 (Nat.zero_le _)
end Go.Ev
end

section
open Go Go.Ev
namespace Go.Ev
noncomputable section
noncomputable def ZwN:Run:=entG Zfh Zmn (fun a=>Zi5 a.1 a.2.1) (fun a=>ZaX a.1 a.2.1)
theorem ZCz:EntOK Go.Proofs.Tryz.prog 87 ZwN:=ZM (tb:=Zpl) (c:=ZlD) ZFm (by kernel_rfl) (by kernel_rfl) (by kernel_rfl) (fun a=>by kernel_rfl) fun ⟨t,label,_⟩ hk=>Zm (c:=ZlD) (K:=fun v=>(Zmn v,tps (toForms Zfh (t,label,())))) (S:=Zfb t label) (by kernel_rfl) (ZFc t label) (ZCQ t label) (ZGZ t label hk)
end
end Go.Ev
end

section
open Go Go.Ev
namespace Go.Ev
noncomputable section
def ZgY:Sig:=[(true,(.sl Za)),(false,(.int .i64))]
noncomputable def Zuo:Tbl:=[(85,ZtQ),(87,ZwN)]
theorem ZHK:∀p∈Zuo,EntOK Go.Proofs.Tryz.prog p.1 p.2:=Zg ZwM (Zg ZCz (Zt))
noncomputable def Zoe:Code:=Go.Proofs.Tryz.f61.body.getD .skip
def Zq2:Tb:=[(12,⟨[1,5,8,55,68,76],[(9,72)]⟩),(14,⟨[5,8,78],[]⟩),(hintK,⟨[],[(1,72)]⟩)]
inductive ZkJ where | l12 (to_:Int) (out:List Int) (h:Bool) | l14 (to_:Int) (out:List Int) (h:Bool)
def ZgF (t:List (El Za)) (i:Int):ZkJ→JT ZkJ (List Int) |.l12 to_ out h=>.br h (.br (Nat.ble (((List.length out)+1)*8) limit) (.br (decide (to_ > i)) (.br ((Int.ofNat (List.length (out++[(IntKind.i64.wrap (i+(1:Int)))])))==(0:Int)) (.jmp (.l14 to_ (out++[(IntKind.i64.wrap (i+(1:Int)))]) true)) (.br ((decide ((0:Int)≤(IntKind.i64.wrap ((Int.ofNat (List.length (out++[(IntKind.i64.wrap (i+(1:Int)))]))) - (1:Int)))))&&(decide ((IntKind.i64.wrap ((Int.ofNat (List.length (out++[(IntKind.i64.wrap (i+(1:Int)))]))) - (1:Int))) < (Int.ofNat (List.length (out++[(IntKind.i64.wrap (i+(1:Int)))])))))) (.jmp (.l14 to_ (out++[(IntKind.i64.wrap (i+(1:Int)))]) ((List.getD (out++[(IntKind.i64.wrap (i+(1:Int)))]) (Int.toNat (IntKind.i64.wrap ((Int.ofNat (List.length (out++[(IntKind.i64.wrap (i+(1:Int)))]))) - (1:Int)))) (dflt (.int .i64))) !=to_))) (.no))) (.jmp (.l14 to_ (out++[(IntKind.i64.wrap (i+(1:Int)))]) false))) (.no)) (.br (decide (to_ > i)) (.br ((Int.ofNat (List.length out))==(0:Int)) (.jmp (.l14 to_ out true)) (.br ((decide ((0:Int)≤(IntKind.i64.wrap ((Int.ofNat (List.length out)) - (1:Int)))))&&(decide ((IntKind.i64.wrap ((Int.ofNat (List.length out)) - (1:Int))) < (Int.ofNat (List.length out))))) (.jmp (.l14 to_ out ((List.getD out (Int.toNat (IntKind.i64.wrap ((Int.ofNat (List.length out)) - (1:Int)))) (dflt (.int .i64))) !=to_))) (.no))) (.jmp (.l14 to_ out false))) |.l14 to_ out h=>.br h (.br (Nat.ble (((List.length out)+1)*8) limit) (.leaf (out++[to_])) (.no)) (.leaf out)
def Zrj (t:List (El Za)) (i:Int):JT ZkJ (List Int):=.br (decide (i < (0:Int))) (.leaf []) (.br (decide (i≥(Int.ofNat (List.length t)))) (.leaf []) (.br ((decide ((0:Int)≤i))&&(decide (i < (Int.ofNat (List.length t))))) (.br (Zdv (List.getD t (Int.toNat i) (dflt Za))) (.br (Zaw (List.getD t (Int.toNat i) (dflt Za))).2 (.br ((decide ((0:Int)≤i))&&(decide (i < (Int.ofNat (List.length t))))) (.br (Zi5 t (List.getD t (Int.toNat i) (dflt Za)).2.2.2.2.2.1) (.br (decide ((ZaX t (List.getD t (Int.toNat i) (dflt Za)).2.2.2.2.2.1)≥(0:Int))) (.br (decide ((ZaX t (List.getD t (Int.toNat i) (dflt Za)).2.2.2.2.2.1)≤i)) (.br (Zaw (List.getD t (Int.toNat i) (dflt Za))).1 (.jmp (.l12 (ZaX t (List.getD t (Int.toNat i) (dflt Za)).2.2.2.2.2.1) [(ZaX t (List.getD t (Int.toNat i) (dflt Za)).2.2.2.2.2.1)] (decide ((IntKind.i64.wrap (i+(1:Int))) < (Int.ofNat (List.length t)))))) (.jmp (.l12 (ZaX t (List.getD t (Int.toNat i) (dflt Za)).2.2.2.2.2.1) [(ZaX t (List.getD t (Int.toNat i) (dflt Za)).2.2.2.2.2.1)] false))) (.br (Zaw (List.getD t (Int.toNat i) (dflt Za))).1 (.jmp (.l12 (ZaX t (List.getD t (Int.toNat i) (dflt Za)).2.2.2.2.2.1) [] (decide ((IntKind.i64.wrap (i+(1:Int))) < (Int.ofNat (List.length t)))))) (.jmp (.l12 (ZaX t (List.getD t (Int.toNat i) (dflt Za)).2.2.2.2.2.1) [] false)))) (.br (Zaw (List.getD t (Int.toNat i) (dflt Za))).1 (.jmp (.l12 (ZaX t (List.getD t (Int.toNat i) (dflt Za)).2.2.2.2.2.1) [] (decide ((IntKind.i64.wrap (i+(1:Int))) < (Int.ofNat (List.length t)))))) (.jmp (.l12 (ZaX t (List.getD t (Int.toNat i) (dflt Za)).2.2.2.2.2.1) [] false)))) (.no)) (.no)) (.br (Zaw (List.getD t (Int.toNat i) (dflt Za))).1 (.jmp (.l12 (-1:Int) [] (decide ((IntKind.i64.wrap (i+(1:Int))) < (Int.ofNat (List.length t)))))) (.jmp (.l12 (-1:Int) [] false)))) (.no)) (.no)))
def ZoC:List Int→AV:=fun (r:List Int)=>.rw 3 (.int .i64) r
def ZgJ (t:List (El Za)) (i:Int):ZkJ→Nat×St |.l12 to_ out h=>(12,⟨mkTm 84 [(1,.d (.int .i64) i),(5,.d (.int .i64) to_),(8,.own 9 0 none),(55,.d .bool h)],[(9,0,.row 3 (.int .i64) out false)]⟩) |.l14 to_ out h=>(14,⟨mkTm 84 [(5,.d (.int .i64) to_),(8,.own 9 0 none),(78,.d .bool h)],[(9,0,.row 3 (.int .i64) out false)]⟩)
theorem ZHE (t:List (El Za)) (i:Int) (L:Lt):entryA Go.Proofs.Tryz.prog (clOf Zuo) Zq2 Go.Proofs.Tryz.f61 Zoe L (toForms ZgY (t,i,()))=(Zrj t i).run (fun v=>some (ZoC v,tps (toForms ZgY (t,i,())))) fun j=>L (ZgJ t i j).1 (ZgJ t i j).2:=by kernel_rfl
theorem ZH3 (t:List (El Za)) (i:Int):∀(L:Lt) (j:ZkJ),procOf (procsF Go.Proofs.Tryz.prog (clOf Zuo) Zq2 Go.Proofs.Tryz.f61 Zoe (toForms ZgY (t,i,()))) (ZgJ t i j).1 L (ZgJ t i j).2=(ZgF t i j).run (fun v=>some (ZoC v,tps (toForms ZgY (t,i,())))) fun j=>L (ZgJ t i j).1 (ZgJ t i j).2 | L,.l12 to_ out h=>by kernel_rfl | L,.l14 to_ out h=>by kernel_rfl
end
end Go.Ev
end

section
open Go
namespace Go.Ev
def Z7 (t:List (El Za)) (i:Int):List Int:=listOf t.length (nextB t i)
def Ze2 (t:List (El Za)) (i:Int):Bool:=flowOK t
theorem ZzK {t:List (El Za)} {i:Int} (h:¬(0≤i∧i < (t.length:Int))):listOf t.length (nextB t i)=[]:=by
 unfold listOf
 rw[List.map_eq_nil_iff,List.filter_eq_nil_iff]
 intro j _ hb
 unfold nextB at hb
 rw[Bool.and_eq_true] at hb
 have:=of_decide_eq_true hb.1
 exact h ⟨this.1,this.2.1⟩
theorem ZJF (t:List (El Za)) (i:Int) (hk:Ze2 t i=true):Goes (ZgF t i) (Zrj t i) (Z7 t i):=by
 have hlen:=ZbL hk
 unfold Zrj Z7
 rw[Ze]
 by_cases h0:i < 0
 ·rw[if_pos (decide_eq_true h0),ZzK (fun h=>by omega)];exact .leaf
 rw[if_neg (by simpa using h0),Ze]
 obtain ⟨j,rfl⟩:=Int.eq_ofNat_of_zero_le (show 0≤i by omega)
 by_cases h1:(t.length:Int)≤(j:Int)
 ·rw[if_pos (decide_eq_true (show (j:Int)≥Int.ofNat t.length from h1)),ZzK (fun h=>by omega)];exact .leaf
 have hj:j < t.length:=by omega
 rw[if_neg (by simp;omega),Ze,if_pos (Zaq hj),Ze,Int.toNat_natCast]
 rw[←ZKg hj]
 have hmem:t.getD j (dflt Za)∈t:=by rw[ZH hj];exact List.getElem_mem hj
 have kl:Zdv (t.getD j (dflt Za))=true:=ZMp (Zlm hk hmem)
 have kf:Zi5 t (t.getD j (dflt Za)).2.2.2.2.2.1=true:=ZzA hk
 have vf:ZaX t (t.getD j (dflt Za)).2.2.2.2.2.1=findI (t.getD j (dflt Za)).2.2.2.2.2.1 t 0:=rfl
 rw[if_pos kl]
 have hw:IntKind.i64.wrap ((j:Int)+1)=(j:Int)+1:=by rw[wrap_i64 (by omega) (by omega)]
 have l14:∀(to:Int) (out:List Int) (h:Bool),out.length≤3→Goes (ZgF t (j:Int)) (.jmp (.l14 to out h)) (out++if h=true then [to] else []):=by
  intro to out h ho
  rw[Zi,ZgF,Ze]
  cases h with
  | true=>
   rw[if_pos rfl,Ze,if_pos (Nat.ble_eq_true_of_le (by unfold limit;omega)),if_pos rfl];exact .leaf
  | false=>rw[if_neg (by decide),if_neg (by decide),List.append_nil];exact .leaf
 have last:∀(out:List Int) (x:Int),out.length≤1→(decide ((0:Int)≤IntKind.i64.wrap (Int.ofNat (out++[x]).length - 1))&&decide (IntKind.i64.wrap (Int.ofNat (out++[x]).length - 1) < Int.ofNat (out++[x]).length))=true∧List.getD (out++[x]) (IntKind.i64.wrap (Int.ofNat (out++[x]).length - 1)).toNat (dflt (.int .i64))=x:=by
  intro out x ho
  have e:IntKind.i64.wrap (Int.ofNat (out++[x]).length - 1)=(out.length:Int):=by
   rw[List.length_append,List.length_singleton,wrap_i64 (by simp <;> omega) (by simp <;> omega)]
   simp
  rw[e]
  refine ⟨by simp;omega,?_⟩
  rw[Int.toNat_natCast]
  simp[List.getD]
 have l12:∀(to:Int) (h:Bool), -1≤to→(h=true→(j:Int)+1 < t.length)→Goes (ZgF t (j:Int)) (.jmp (.l12 to (if 0≤to∧to≤(j:Int) then [to] else []) h)) (nextL t.length h to (j:Int)):=by
  intro to h hto hh
  rw[Zi,ZgF]
  unfold nextL
  generalize hout:(if 0≤to∧to≤(j:Int) then [to] else [])=out
  have hol:out.length≤1:=by rw[←hout];split <;> simp
  rw[Ze]
  cases h with
  | true=>
   rw[if_pos rfl,Ze,if_pos (Nat.ble_eq_true_of_le (by unfold limit;omega)),Ze,hw]
   have hin:=hh rfl
   obtain ⟨b1,b2⟩:=last out ((j:Int)+1) hol
   rw[if_pos (show true=true∧(j:Int)+1 < (t.length:Int) from ⟨rfl,hin⟩)]
   by_cases hgt:to > (j:Int)
   ·rw[if_pos (decide_eq_true hgt),Ze,if_neg (by simp;omega),Ze,if_pos b1,b2]
    have:=l14 to (out++[(j:Int)+1]) ((j:Int)+1 !=to) (by simp;omega)
    rw[List.append_assoc] at this
    by_cases he:to=(j:Int)+1
    ·rw[if_neg (by simp[he]),List.append_nil] at this
     rw[if_neg (fun h=>h.2 ⟨rfl,hin,he⟩),List.append_nil]
     exact this
    ·rw[if_pos (by simp;omega)] at this
     rw[if_pos ⟨hgt,fun h=>he h.2.2⟩]
     exact this
   ·rw[if_neg (by simpa using hgt),if_neg (fun h=>hgt h.1),List.append_nil]
    have:=l14 to (out++[(j:Int)+1]) false (by simp;omega)
    rwa[if_neg (by decide),List.append_nil] at this
  | false=>
   rw[if_neg (by decide),Ze,if_neg (c:=false=true∧(j:Int)+1 < (t.length:Int)) (fun h=>by cases h.1),List.nil_append]
   by_cases hgt:to > (j:Int)
   ·have he:out=[]:=by rw[←hout,if_neg (fun h=>by omega)]
    subst he
    rw[if_pos (decide_eq_true hgt),Ze,if_pos (show (Int.ofNat ([]:List Int).length==0)=true from rfl),if_pos ⟨hgt,fun h=>by cases h.1⟩]
    have:=l14 to [] true (by simp)
    rwa[if_pos rfl] at this
   ·rw[if_neg (by simpa using hgt),if_neg (fun h=>hgt h.1),List.append_nil]
    have:=l14 to out false (by omega)
    rwa[if_neg (by decide),List.append_nil] at this
 have key:∀(on:Bool) (to:Int),nextL t.length (bif on then decide ((j:Int)+1 < Int.ofNat t.length) else false) to (j:Int)=nextL t.length on to (j:Int):=by
  intro on to
  cases on with
  | false=>rfl
  | true=>
   show nextL t.length (decide ((j:Int)+1 < Int.ofNat t.length)) to (j:Int)=nextL t.length true to (j:Int)
   by_cases hin:(j:Int)+1 < (t.length:Int)
   ·rw[decide_eq_true (show (j:Int)+1 < Int.ofNat t.length from hin)]
   ·rw[decide_eq_false (show ¬(j:Int)+1 < Int.ofNat t.length from hin)]
    unfold nextL
    rw[if_neg (c:=false=true∧(j:Int)+1 < (t.length:Int)) (fun h=>by cases h.1),if_neg (c:=true=true∧(j:Int)+1 < (t.length:Int)) (fun h=>hin h.2)]
    by_cases hgt:to > (j:Int)
    ·rw[if_pos (c:=to > (j:Int)∧¬(false=true∧(j:Int)+1 < (t.length:Int)∧to=(j:Int)+1)) ⟨hgt,fun h=>by cases h.1⟩,if_pos (c:=to > (j:Int)∧¬(true=true∧(j:Int)+1 < (t.length:Int)∧to=(j:Int)+1)) ⟨hgt,fun h=>hin h.2.1⟩]
    ·rw[if_neg (c:=to > (j:Int)∧¬(false=true∧(j:Int)+1 < (t.length:Int)∧to=(j:Int)+1)) (fun h=>hgt h.1),if_neg (c:=to > (j:Int)∧¬(true=true∧(j:Int)+1 < (t.length:Int)∧to=(j:Int)+1)) (fun h=>hgt h.1)]
 have both:∀(on:Bool) (to:Int) (out:List Int), -1≤to→out=(if 0≤to∧to≤(j:Int) then [to] else [])→Goes (ZgF t (j:Int)) (.br on (.jmp (.l12 to out (decide (IntKind.i64.wrap ((j:Int)+1) < Int.ofNat t.length)))) (.jmp (.l12 to out false))) (nextL t.length on to (j:Int)):=by
  intro on to out hto hout
  subst hout
  rw[Ze,←key,hw]
  cases on with
  | true=>
   rw[if_pos rfl,cond_true]
   exact l12 to _ hto fun h=>of_decide_eq_true h
  | false=>
   rw[if_neg (by decide),cond_false]
   exact l12 to _ hto fun h=>by cases h
 have hr:= @ZJg t j
 rw[Ze]
 unfold onOf
 by_cases hjmp:(Zaw (t.getD j (dflt Za))).2=true
 ·have hto:toOf t j=findI (t.getD j (dflt Za)).2.2.2.2.2.1 t 0:=by unfold toOf;rw[if_pos hjmp]
  rw[hto] at hr
  rw[if_pos hjmp,Ze,if_pos (Zaq hj),Ze,if_pos kf,Ze,vf,hto]
  generalize findI (t.getD j (dflt Za)).2.2.2.2.2.1 t 0=to at hr
  by_cases h2:to≥0
  ·rw[if_pos (decide_eq_true h2),Ze]
   by_cases h3:to≤(j:Int)
   ·rw[if_pos (decide_eq_true h3)]
    exact both _ to _ hr.1 (by rw[if_pos ⟨h2,h3⟩])
   ·rw[if_neg (by simpa using h3)]
    exact both _ to _ hr.1 (by rw[if_neg (fun h=>h3 h.2)])
  ·rw[if_neg (by simpa using h2)]
   exact both _ to _ hr.1 (by rw[if_neg (fun h=>h2 h.1)])
 ·have hto:toOf t j= -1:=by unfold toOf;rw[if_neg hjmp]
  rw[if_neg hjmp,hto]
  exact both _ (-1) _ (by omega) (by rw[if_neg (fun h=>by omega)])
end Go.Ev
end

section
open Go Go.Ev
namespace Go.Ev
noncomputable section
noncomputable def ZtG:Run:=entG ZgY ZoC (fun a=>Ze2 a.1 a.2.1) (fun a=>Z7 a.1 a.2.1)
theorem ZxF:EntOK Go.Proofs.Tryz.prog 61 ZtG:=ZM (tb:=Zq2) (c:=Zoe) ZHK (by kernel_rfl) (by kernel_rfl) (by kernel_rfl) (fun a=>by kernel_rfl) fun ⟨t,i,_⟩ hk=>Zm (c:=Zoe) (K:=fun v=>(ZoC v,tps (toForms ZgY (t,i,())))) (S:=ZgJ t i) (by kernel_rfl) (ZHE t i) (ZH3 t i) (ZJF t i hk)
end
end Go.Ev
end

section
open Go Go.Ev
namespace Go.Ev
noncomputable section
noncomputable def ZqE:Tbl:=[]
theorem ZxZ:∀p∈ZqE,EntOK Go.Proofs.Tryz.prog p.1 p.2:=Zt
noncomputable def ZAp:Code:=Go.Proofs.Tryz.f63.body.getD .skip
noncomputable def ZkB:Run:=entE Go.Proofs.Tryz.prog ZqE Go.Proofs.Tryz.f63 ZAp
theorem Zqb:EntOK Go.Proofs.Tryz.prog 63 ZkB:=ZI5 ZxZ (by kernel_rfl) (by kernel_rfl) (by kernel_rfl) (fun xs=>by kernel_rfl)
end
end Go.Ev
end

section
open Go Go.Ev
namespace Go.Ev
noncomputable section
def Zld:PSig:=[.obj 98 [(.d (.int .i64)),(.m (.int .i64) (.int .u64))],.dat false (.int .i64)]
noncomputable def Znv:Tbl:=[(63,ZkB)]
theorem Zz6:∀p∈Znv,EntOK Go.Proofs.Tryz.prog p.1 p.2:=Zg Zqb (Zt)
noncomputable def ZfY:Code:=Go.Proofs.Tryz.f40.body.getD .skip
def Zk0:Tb:=[]
def ZsZ (s:Int×List (Int×Int)) (i:Int):Empty→JT Empty (Bool×Int×List (Int×Int)):=fun j=>nomatch j
def ZkD (s:Int×List (Int×Int)) (i:Int):JT Empty (Bool×Int×List (Int×Int)):=.br (decide (i≥(0:Int))) (.br (decide (i < s.1)) (.br (decide ((IntKind.u64.wrap (Int.tmod i (64:Int))) < (0:Int))) (.no) (.leaf (((bitAnd IntKind.u64 (Int.fdiv (Option.getD (mget (kt:=(.int .i64)) (IntKind.i64.wrap (Int.tdiv i (64:Int))) s.2) (0:Int)) (2 ^ (min (Int.toNat (IntKind.u64.wrap (Int.tmod i (64:Int)))) (IntKind.u64).bits))) (1:Int))==(1:Int)),s))) (.leaf (false,s))) (.leaf (false,s))
def ZfT:Bool×Int×List (Int×Int)→Ans:=fun (r:Bool×Int×List (Int×Int))=>(.d .bool r.1,[.bx 98 [.d (.int .i64) r.2.1,.mv (.int .i64) (.int .u64) r.2.2],.top])
def Zc1 (s:Int×List (Int×Int)) (i:Int):Empty→Nat×St:=fun j=>nomatch j
theorem ZyZ (s:Int×List (Int×Int)) (i:Int) (L:Lt):entryA Go.Proofs.Tryz.prog (clOf Znv) Zk0 Go.Proofs.Tryz.f40 ZfY L (toPs Zld (s,i,()))=(ZkD s i).run (fun v=>some (ZfT v)) fun j=>L (Zc1 s i j).1 (Zc1 s i j).2:=by kernel_rfl
theorem ZzM (s:Int×List (Int×Int)) (i:Int):∀(L:Lt) (j:Empty),procOf (procsF Go.Proofs.Tryz.prog (clOf Znv) Zk0 Go.Proofs.Tryz.f40 ZfY (toPs Zld (s,i,()))) (Zc1 s i j).1 L (Zc1 s i j).2=(ZsZ s i j).run (fun v=>some (ZfT v)) fun j=>L (Zc1 s i j).1 (Zc1 s i j).2:=fun L j=>nomatch j
end
end Go.Ev
end

section
open Go
namespace Go.Ev
def Zp (s:Int×List (Int×Int)) (i:Int):Bool×Int×List (Int×Int):=(hasS s i,s)
theorem ZAC (s:Int×List (Int×Int)) (i:Int):Goes (ZsZ s i) (ZkD s i) (Zp s i):=by
 unfold ZkD Zp hasS
 rw[Ze]
 by_cases h0:i≥0
 ·rw[if_pos (decide_eq_true h0),Ze,decide_eq_true h0,Bool.true_and]
  by_cases h1:i < s.1
  ·rw[if_pos (decide_eq_true h1),Ze,if_neg (by rw[Zxy];decide),decide_eq_true h1,Bool.true_and]
   exact .leaf
  ·rw[if_neg (by simpa using h1),decide_eq_false h1,Bool.false_and]
   exact .leaf
 ·rw[if_neg (by simpa using h0),decide_eq_false h0,Bool.false_and]
  exact .leaf
end Go.Ev
end

section
open Go Go.Ev
namespace Go.Ev
noncomputable section
noncomputable def Zf1:Run:=entO Zld ZfT (fun a=>true) (fun a=>Zp a.1 a.2.1)
theorem Ze5:EntOK Go.Proofs.Tryz.prog 40 Zf1:=ZIF (tb:=Zk0) (c:=ZfY) (Zn0 (ZiS (fn:=Go.Proofs.Tryz.f40) (c:=ZfY) (by kernel_rfl) (by kernel_rfl) (by kernel_rfl))) Zz6 (by kernel_rfl) (by kernel_rfl) (fun a=>by kernel_rfl) fun ⟨s,i,_⟩ hk=>Zm (c:=ZfY) (K:=ZfT) (S:=Zc1 s i) (by kernel_rfl) (ZyZ s i) (ZzM s i) (ZAC s i)
end
end Go.Ev
end

section
open Go Go.Ev
namespace Go.Ev
noncomputable section
def ZkS:PSig:=[.obj 98 [(.d (.int .i64)),(.m (.int .i64) (.int .u64))],.dat false (.int .i64)]
noncomputable def Znu:Tbl:=[(63,ZkB),(40,Zf1)]
theorem Zy5:∀p∈Znu,EntOK Go.Proofs.Tryz.prog p.1 p.2:=Zg Zqb (Zg Ze5 (Zt))
noncomputable def ZfU:Code:=Go.Proofs.Tryz.f39.body.getD .skip
def Zlr:Tb:=[]
def Zte (s:Int×List (Int×Int)) (i:Int):Empty→JT Empty (Bool×Int×List (Int×Int)):=fun j=>nomatch j
def ZkX (s:Int×List (Int×Int)) (i:Int):JT Empty (Bool×Int×List (Int×Int)):=.br (decide (i < (0:Int))) (.leaf (false,s)) (.br (decide (i≥s.1)) (.leaf (false,s)) (.br (Zp s i).1 (.leaf (false,(Zp s i).2)) (.br (decide ((IntKind.u64.wrap (Int.tmod i (64:Int))) < (0:Int))) (.no) (.leaf (true,((Zp s i).2.1,(mput (kt:=(.int .i64)) (IntKind.i64.wrap (Int.tdiv i (64:Int))) (bitOr IntKind.u64 (Option.getD (mget (kt:=(.int .i64)) (IntKind.i64.wrap (Int.tdiv i (64:Int))) (Zp s i).2.2) (0:Int)) (IntKind.u64.wrap ((1:Int)*(2 ^ (min (Int.toNat (IntKind.u64.wrap (Int.tmod i (64:Int)))) (IntKind.u64).bits))))) (Zp s i).2.2)))))))
def Zf8:Bool×Int×List (Int×Int)→Ans:=fun (r:Bool×Int×List (Int×Int))=>(.d .bool r.1,[.bx 98 [.d (.int .i64) r.2.1,.mv (.int .i64) (.int .u64) r.2.2],.top])
def ZcI (s:Int×List (Int×Int)) (i:Int):Empty→Nat×St:=fun j=>nomatch j
theorem ZAg (s:Int×List (Int×Int)) (i:Int) (L:Lt):entryA Go.Proofs.Tryz.prog (clOf Znu) Zlr Go.Proofs.Tryz.f39 ZfU L (toPs ZkS (s,i,()))=(ZkX s i).run (fun v=>some (Zf8 v)) fun j=>L (ZcI s i j).1 (ZcI s i j).2:=by kernel_rfl
theorem Zz1 (s:Int×List (Int×Int)) (i:Int):∀(L:Lt) (j:Empty),procOf (procsF Go.Proofs.Tryz.prog (clOf Znu) Zlr Go.Proofs.Tryz.f39 ZfU (toPs ZkS (s,i,()))) (ZcI s i j).1 L (ZcI s i j).2=(Zte s i j).run (fun v=>some (Zf8 v)) fun j=>L (ZcI s i j).1 (ZcI s i j).2:=fun L j=>nomatch j
end
end Go.Ev
end

section
open Go
namespace Go.Ev
def Zo (s:Int×List (Int×Int)) (i:Int):Bool×Int×List (Int×Int):=putS s i
theorem ZA0 (s:Int×List (Int×Int)) (i:Int):Goes (Zte s i) (ZkX s i) (Zo s i):=by
 unfold ZkX Zo putS
 simp only[Zp]
 rw[Ze]
 by_cases h0:i < 0
 ·rw[if_pos (decide_eq_true h0),if_pos (.inl h0)];exact .leaf
 ·rw[if_neg (by simpa using h0),Ze]
  by_cases h1:i≥s.1
  ·rw[if_pos (decide_eq_true h1),if_pos (.inr (.inl h1))];exact .leaf
  ·rw[if_neg (by simpa using h1),Ze]
   by_cases h2:hasS s i=true
   ·rw[if_pos h2,if_pos (.inr (.inr h2))];exact .leaf
   ·rw[if_neg h2,Ze,if_neg (by rw[Zxy];decide),if_neg (by intro h;rcases h with h | h | h <;> first | exact h0 h | exact h1 h | exact h2 h)]
    exact .leaf
end Go.Ev
end

section
open Go Go.Ev
namespace Go.Ev
noncomputable section
noncomputable def ZcU:Run:=entO ZkS Zf8 (fun a=>true) (fun a=>Zo a.1 a.2.1)
theorem Zb6:EntOK Go.Proofs.Tryz.prog 39 ZcU:=ZIF (tb:=Zlr) (c:=ZfU) (Zn0 (ZiS (fn:=Go.Proofs.Tryz.f39) (c:=ZfU) (by kernel_rfl) (by kernel_rfl) (by kernel_rfl))) Zy5 (by kernel_rfl) (by kernel_rfl) (fun a=>by kernel_rfl) fun ⟨s,i,_⟩ hk=>Zm (c:=ZfU) (K:=Zf8) (S:=ZcI s i) (by kernel_rfl) (ZAg s i) (Zz1 s i) (ZA0 s i)
end
end Go.Ev
end

section
open Go Go.Ev
namespace Go.Ev
noncomputable section
def Zek:PSig:=[.obj 98 [(.d (.int .i64)),(.m (.int .i64) (.int .u64))]]
noncomputable def ZnJ:Tbl:=[]
noncomputable def Zia:Code:=match Go.Proofs.Tryz.f62.body with | some (.seq _ (.seq _ (.seq _ (.seq _ (.seq _ d)))))=>d | _=>.skip
def Zbh:Tb:=[(2,⟨[0,4,26,27,28],[(5,72)]⟩),(8,⟨[0,4,7,8,26,27,28],[(5,72)]⟩)]
inductive Zdc where | l2 (h:Int) (h1:List Int) (h2:Int) (out:List Int) | l8 (k:Int) (h:Int) (h1:List Int) (i:Int) (out:List Int) (h2:Int)
def ZaR (s:Int×List (Int×Int)) (places:List Int):Zdc→JT Zdc ((List Int)×Int×List (Int×Int)) |.l2 h h1 h2 out=>.br (decide (h2 < h)) (.br ((decide ((0:Int)≤h2))&&(decide (h2 < (Int.ofNat (List.length h1))))) (.jmp (.l8 (List.getD h1 (Int.toNat h2) (dflt (.int .i64))) h h1 (0:Int) out h2)) (.no)) (.leaf (out,s)) |.l8 k h h1 i out h2=>.br (decide (i < (64:Int))) (.br (decide ((IntKind.u64.wrap i) < (0:Int))) (.no) (.br ((bitAnd IntKind.u64 (Int.fdiv (Option.getD (mget (kt:=(.int .i64)) k s.2) (0:Int)) (2 ^ (min (Int.toNat (IntKind.u64.wrap i)) (IntKind.u64).bits))) (1:Int))==(1:Int)) (.br (Nat.ble (((List.length out)+1)*8) limit) (.jmp (.l8 k h h1 (IntKind.i64.wrap (i+(1:Int))) (out++[(IntKind.i64.wrap ((IntKind.i64.wrap (k*(64:Int)))+i))]) h2)) (.no)) (.jmp (.l8 k h h1 (IntKind.i64.wrap (i+(1:Int))) out h2)))) (.jmp (.l2 h h1 (IntKind.i64.wrap (h2+(1:Int))) out))
def ZhG (s:Int×List (Int×Int)) (places:List Int):JT Zdc ((List Int)×Int×List (Int×Int)):=.jmp (.l2 (Int.ofNat (List.length places)) places (0:Int) [])
def Zij:(List Int)×Int×List (Int×Int)→Ans:=fun (r:(List Int)×Int×List (Int×Int))=>(.rw 3 (.int .i64) r.1,[.bx 98 [.d (.int .i64) r.2.1,.mv (.int .i64) (.int .u64) r.2.2]])
def Zb4 (s:Int×List (Int×Int)) (places:List Int):Zdc→Nat×St |.l2 h h1 h2 out=>(2,⟨mkTm 56 [(0,.pt 1 0 0),(4,.own 5 0 none),(26,.own 27 0 none),(27,.d (.int .i64) h),(28,.d (.int .i64) h2)],[(1,0,.box 98 [.d (.int .i64) s.1,.mp 1026 0] (some 0)),(5,0,.row 3 (.int .i64) out false),(27,0,.row 3 (.int .i64) h1 false),(1026,0,.map (.int .i64) (.int .u64) s.2)]⟩) |.l8 k h h1 i out h2=>(8,⟨mkTm 56 [(0,.pt 1 0 0),(4,.own 5 0 none),(7,.d (.int .i64) k),(8,.d (.int .i64) i),(26,.own 27 0 none),(27,.d (.int .i64) h),(28,.d (.int .i64) h2)],[(1,0,.box 98 [.d (.int .i64) s.1,.mp 1026 0] (some 0)),(5,0,.row 3 (.int .i64) out false),(27,0,.row 3 (.int .i64) h1 false),(1026,0,.map (.int .i64) (.int .u64) s.2)]⟩)
def Zei (s:Int×List (Int×Int)) (places:List Int):St:=⟨mkTm 56 [(0,.pt 1 0 0),(3,.own 4 0 none),(4,.nil)],[(1,0,.box 98 [.d (.int .i64) s.1,.mp 1026 0] (some 0)),(4,0,.row 3 (.int .i64) places false),(1026,0,.map (.int .i64) (.int .u64) s.2)]⟩
theorem Zvd (s:Int×List (Int×Int)) (places:List Int) (L:Lt):evC Go.Proofs.Tryz.prog (clOf ZnJ) Zbh L Zia 0 (finA Go.Proofs.Tryz.prog Zbh Go.Proofs.Tryz.f62 (toPs Zek (s,()))) (fun _ _=>none) (finA Go.Proofs.Tryz.prog Zbh Go.Proofs.Tryz.f62 (toPs Zek (s,()))) (Zei s places)=(ZhG s places).run (fun v=>some (Zij v)) fun j=>L (Zb4 s places j).1 (Zb4 s places j).2:=by kernel_rfl
noncomputable def ZmN (s:Int×List (Int×Int)) (places:List Int):List (Nat×(Lt→Kt)):=procs Go.Proofs.Tryz.prog (clOf ZnJ) Zbh Zia 0 (fun _=>(finA Go.Proofs.Tryz.prog Zbh Go.Proofs.Tryz.f62 (toPs Zek (s,())))) (fun _ _ _=>none) (fun _=>(finA Go.Proofs.Tryz.prog Zbh Go.Proofs.Tryz.f62 (toPs Zek (s,()))))
theorem ZuR (s:Int×List (Int×Int)) (places:List Int):∀(L:Lt) (j:Zdc),procOf (ZmN s places) (Zb4 s places j).1 L (Zb4 s places j).2=(ZaR s places j).run (fun v=>some (Zij v)) fun j=>L (Zb4 s places j).1 (Zb4 s places j).2 | L,.l2 h h1 h2 out=>by kernel_rfl | L,.l8 k h h1 i out h2=>by kernel_rfl
end
end Go.Ev
end

section
open Go
namespace Go.Ev
theorem Zv5 (s:Int×List (Int×Int)) (places:List Int) (hk:Nat.ble (places.length*512) limit=true):Goes (ZaR s places) (ZhG s places) (listAt s.2 places,s):=by
 have hlim:places.length*512≤limit:=Nat.le_of_ble_eq_true hk
 have hn:places.length < 4611686018427387904:=by unfold limit at hlim;omega
 have inner:∀(k:Int) (j:Nat),j < places.length→∀(i:Nat),i≤64→∀(out:List Int) r,(out.length+(64 - i))*8≤limit→
   Goes (ZaR s places) (.jmp (.l2 (Int.ofNat (List.length places)) places ((j+1:Nat):Int) (out++wordList s.2 k i (64 - i)))) r→
   Goes (ZaR s places) (.jmp (.l8 k (Int.ofNat (List.length places)) places (i:Int) out (j:Int))) r:=by
  intro k j hj
  refine down ?_ fun i hi ih=>?_
  ·intro out r _ h
   rw[Zi]
   have e:decide (((64:Nat):Int) < (64:Int))=false:=by decide
   simp only[ZaR,Ze,e,Bool.false_eq_true,if_false,Zr (k:=j) (by omega)]
   simpa[wordList] using h
  ·intro out r hl h
   rw[Zi]
   have e:decide ((i:Int) < (64:Int))=true:=decide_eq_true (by omega)
   have hw:=Zua hi
   have e2:decide ((i:Int) < (0:Int))=false:=decide_eq_false (by omega)
   have hcons:wordList s.2 k i (64 - i)=(if bitE (wordAt s.2 k) (i:Nat) then [numE k (i:Nat)] else [])++wordList s.2 k (i+1) (64 - (i+1)):=by
    unfold wordList
    rw[show 64 - i=(64 - (i+1))+1 by omega,List.range'_succ,List.filter_cons]
    split <;> simp
   rw[hcons] at h
   have hb:((bitAnd IntKind.u64 (Int.fdiv (Option.getD (mget (kt:=(.int .i64)) k s.2) (0:Int)) (2 ^ (min (Int.toNat (IntKind.u64.wrap (i:Int))) (IntKind.u64).bits))) (1:Int))==(1:Int))=bitE (wordAt s.2 k) (i:Nat):=rfl
   unfold ZaR
   rw[Ze,if_pos e,Ze,if_neg (by rw[hw,e2];decide),Ze,hb,Zr (k:=i) (by omega)]
   by_cases hbit:bitE (wordAt s.2 k) (i:Nat)=true
   ·rw[if_pos hbit]
    rw[if_pos hbit] at h
    rw[Ze,if_pos (Nat.ble_eq_true_of_le (by omega))]
    refine ih (out++[numE k (i:Nat)]) r (by simp;omega) ?_
    simpa using h
   ·rw[if_neg hbit]
    rw[if_neg hbit,List.nil_append] at h
    exact ih out r (by omega) h
 have outer:∀j,j≤places.length→∀out:List Int,(out.length+(places.length - j)*64)*8≤limit→
   Goes (ZaR s places) (.jmp (.l2 (Int.ofNat (List.length places)) places (j:Int) out)) (out++listAt s.2 (places.drop j),s):=by
  refine down ?_ fun j hj ih=>?_
  ·intro out _
   rw[Zi]
   simp only[ZaR,Ze,Zy (Nat.lt_irrefl _),List.drop_length,Bool.false_eq_true,if_false]
   rw[show out++listAt s.2 []=out by simp[listAt]]
   exact .leaf
  ·intro out hl
   rw[Zi,ZP hj]
   simp only[ZaR,Ze,ZS hj,nng,Bool.and_self,if_true,Int.toNat_natCast,ZH hj]
   have hwl:=ZzH s.2 places[j] 0 64
   refine inner places[j] j hj 0 (by omega) out _ (by omega) ?_
   have:=ih (out++wordList s.2 places[j] 0 64) (by rw[List.length_append];omega)
   rw[show out++listAt s.2 (places[j] :: places.drop (j+1))=(out++wordList s.2 places[j] 0 64)++listAt s.2 (places.drop (j+1)) by simp only[listAt,List.flatMap_cons,List.append_assoc]]
   exact this
 have:=outer 0 (Nat.zero_le _) [] (by simp;omega)
 simpa[ZhG] using this
end Go.Ev
end

section
open Go Go.Ev
namespace Go.Ev
def renSort:Go.Shelf.Ren:=⟨fun n=>if n=189 then 70 else if n=125 then 93 else if n=257 then 92 else if n=128 then 120 else if n=129 then 121 else if n=294 then 112 else if n=295 then 113 else if n=296 then 114 else if n=297 then 115 else if n=298 then 116 else if n=299 then 117 else if n=216 then 90 else if n=300 then 118 else if n=301 then 119 else if n=328 then 136 else if n=329 then 137 else if n=330 then 138 else if n=331 then 139 else if n=332 then 140 else if n=215 then 111 else if n=343 then 142 else n,
 fun n=>if n=28 then 36 else if n=46 then 102 else if n=51 then 152 else if n=53 then 101 else if n=183 then 146 else if n=182 then 145 else if n=131 then 108 else if n=218 then 165 else if n=222 then 169 else if n=228 then 176 else if n=229 then 134 else n,
 fun n=>n⟩
theorem Zxs:Go.Proofs.Lays.n189 Go.Proofs.Tryz.prog renSort where
 mixed:=by kernel_rfl
 f125:=by kernel_rfl
 f128:=by kernel_rfl
 f129:=by kernel_rfl
 f189:=by kernel_rfl
 f215:=by kernel_rfl
 f216:=by kernel_rfl
 f257:=by kernel_rfl
 f294:=by kernel_rfl
 f295:=by kernel_rfl
 f296:=by kernel_rfl
 f297:=by kernel_rfl
 f298:=by kernel_rfl
 f299:=by kernel_rfl
 f300:=by kernel_rfl
 f301:=by kernel_rfl
 f328:=by kernel_rfl
 f329:=by kernel_rfl
 f330:=by kernel_rfl
 f331:=by kernel_rfl
 f332:=by kernel_rfl
 f343:=by kernel_rfl
 t0:=by kernel_rfl
 a0:=fun w=>by kernel_rfl
 z0:=fun w=>by kernel_rfl
 v0:=fun w=>by kernel_rfl
 t3:=by kernel_rfl
 a3:=fun w=>by kernel_rfl
 z3:=fun w=>by kernel_rfl
 v3:=fun w=>by kernel_rfl
 t4:=by kernel_rfl
 a4:=fun w=>by kernel_rfl
 z4:=fun w=>by kernel_rfl
 v4:=fun w=>by kernel_rfl
 t5:=by kernel_rfl
 a5:=fun w=>by kernel_rfl
 z5:=fun w=>by kernel_rfl
 v5:=fun w=>by kernel_rfl
 t9:=by kernel_rfl
 a9:=fun w=>by kernel_rfl
 z9:=fun w=>by kernel_rfl
 v9:=fun w=>by kernel_rfl
 t28:=by kernel_rfl
 a28:=fun w=>by kernel_rfl
 z28:=fun w=>by kernel_rfl
 v28:=fun w=>by kernel_rfl
 t46:=by kernel_rfl
 a46:=fun w=>by kernel_rfl
 z46:=fun w=>by kernel_rfl
 v46:=fun w=>by kernel_rfl
 t51:=by kernel_rfl
 a51:=fun w=>by kernel_rfl
 z51:=fun w=>by kernel_rfl
 v51:=fun w=>by kernel_rfl
 t53:=by kernel_rfl
 a53:=fun w=>by kernel_rfl
 z53:=fun w=>by kernel_rfl
 v53:=fun w=>by kernel_rfl
 t131:=by kernel_rfl
 a131:=fun w=>by kernel_rfl
 z131:=fun w=>by kernel_rfl
 v131:=fun w=>by kernel_rfl
 t182:=by kernel_rfl
 a182:=fun w=>by kernel_rfl
 z182:=fun w=>by kernel_rfl
 v182:=fun w=>by kernel_rfl
 t183:=by kernel_rfl
 a183:=fun w=>by kernel_rfl
 z183:=fun w=>by kernel_rfl
 v183:=fun w=>by kernel_rfl
 t218:=by kernel_rfl
 a218:=fun w=>by kernel_rfl
 z218:=fun w=>by kernel_rfl
 v218:=fun w=>by kernel_rfl
 t222:=by kernel_rfl
 a222:=fun w=>by kernel_rfl
 z222:=fun w=>by kernel_rfl
 v222:=fun w=>by kernel_rfl
 t228:=by kernel_rfl
 a228:=fun w=>by kernel_rfl
 z228:=fun w=>by kernel_rfl
 v228:=fun w=>by kernel_rfl
 t229:=by kernel_rfl
 a229:=fun w=>by kernel_rfl
 z229:=fun w=>by kernel_rfl
 v229:=fun w=>by kernel_rfl
theorem sortOK:SortOK Go.Proofs.Tryz.prog 70:=⟨fun blk off cap zs w h1 h2 h3=>Go.Proofs.Any.slices_Sort_int Zxs blk off cap zs w h1 h2 h3,fun p cap w=>Go.Proofs.Any.slices_Sort_int_none Zxs p cap w⟩
end Go.Ev
end

section
open Go Go.Ev
namespace Go.Ev
def Zqf:PSig:=[.obj 98 [(.d (.int .i64)),(.m (.int .i64) (.int .u64))]]
def ZbC (s:Int×List (Int×Int)):(List Int)×Int×List (Int×Int):=(listS s,s)
def Zbj (s:Int×List (Int×Int)):Bool:=Nat.ble (s.2.length*512) limit
def Zr7:(List Int)×Int×List (Int×Int)→Ans:=Zij
section
abbrev SetL:=List (El (.int .i64)×El (.int .u64))
noncomputable def setListBody:Code:=Go.Proofs.Tryz.f62.body.getD .skip
noncomputable def setListR:Code:=fstC (sndC (sndC (sndC setListBody)))
noncomputable def setListX:RangeText:=rangeText (sndC setListR)
noncomputable def setListSort:Code:=fstC (sndC (sndC (sndC (sndC setListBody))))
def setLab1:Lab:=⟨[0,3,4],[]⟩
def setLab2:Lab:=⟨[0,3,4,15],[(4,72)]⟩
def setObs (s:Int×SetL) (ps:List (El (.int .i64))):List (Id×Nat×Obj):=[(1,0,.box 98 [.d (.int .i64) s.1,.mp 1026 0] (some 0)),(4,0,.row 3 (.int .i64) ps false),(1026,0,.gone (some 1000))]
def setK (s:Int×SetL) (v:Value) (ps:List (El (.int .i64))):St:=⟨mkTm 56 [(0,.pt 1 0 0),(3,.own 4 0 none),(4,.nil),(15,.cst v)],setObs s ps⟩
def setI (s:Int×SetL) (v:Value) (done:SetL):St:=setK s v (done.map Prod.fst)
def setT (s:Int×SetL) (v:Value) (done:SetL) (e:El (.int .i64)×El (.int .u64)):St:=((setI s v done).put (some 16) (.tu [mkB true,.d (.int .i64) e.1,.d (.int .u64) e.2])).put (some 17) (mkB true)
def setU (s:Int×SetL) (v:Value) (done:SetL) (e:El (.int .i64)×El (.int .u64)):St:=(((setT s v done e).put (some 18) (.tu [.d (.int .i64) e.1,.d (.int .u64) e.2])).put (some 19) (.d (.int .i64) e.1)).put (some 5) (.d (.int .i64) e.1)
def setE (s:Int×SetL) (v:Value) (done:SetL):St:=((setI s v done).put (some 16) (.tu [mkB false])).put (some 17) (mkB false)
def setA (s:Int×SetL):St:=⟨mkTm 56 [(0,.pt 1 0 0)],[(1,0,.box 98 [.d (.int .i64) s.1,.mp 1026 0] (some 0)),(1026,0,.map (.int .i64) (.int .u64) s.2)]⟩
def setC (s:Int×SetL):St:=⟨mkTm 56 [(0,.pt 1 0 0),(3,.nil),(4,.nil)],[(1,0,.box 98 [.d (.int .i64) s.1,.mp 1026 0] (some 0)),(1026,0,.map (.int .i64) (.int .u64) s.2)]⟩
def setM (s:Int×SetL):St:=((((setC s).put (some 11) (.pt 1 0 0)).put (some 12) (.pt 1 0 0)).put (some 13) (.pt 1 0 1)).put (some 14) (.mp 1026 0)
theorem ZJp:setListX.OK:=⟨by kernel_rfl,by kernel_rfl,by kernel_rfl,by kernel_rfl,by kernel_rfl,by kernel_rfl,by kernel_rfl,by kernel_rfl,by kernel_rfl⟩
theorem ZEd (s:Int×SetL) (v:Value) (done:SetL) (e:El (.int .i64)×El (.int .u64)) (L:Lt) (k:Kt) (x:Nat→Kt) (r:Kt):
  evC Go.Proofs.Tryz.prog (clOf []) [] L setListX.cr 0 (fun t=>k (norm Go.Proofs.Tryz.prog setLab2 t)) x r (setU s v done e)=bif Nat.ble (((done.map Prod.fst).length+1)*8) limit then k (setK s v (done.map Prod.fst++[e.1])) else none:=by kernel_rfl
theorem ZKN (s:Int×SetL) (hk:Zbj s=true):RangeEv Go.Proofs.Tryz.prog (clOf []) setListX s.2 setLab2 1026 1000 (setI s) (setE s) (setT s) (setU s) where
 it:=fun v done=>by kernel_rfl
 r1:=fun v done e k=>by kernel_rfl
 rt:=fun v done e=>by kernel_rfl
 re:=fun v done e=>by kernel_rfl
 r2:=fun v done e k=>by kernel_rfl
 r3:=fun v done e rest hp L k x r=>by
  have hl:=hp.length_eq
  simp only[List.length_append,List.length_cons] at hl
  have hlim:s.2.length*512≤limit:=Nat.le_of_ble_eq_true hk
  rw[ZEd,List.length_map,Nat.ble_eq_true_of_le (by omega),cond_true]
  unfold setI
  rw[List.map_append]
  rfl
 f1:=fun v done k=>by kernel_rfl
 ft:=fun v done=>by kernel_rfl
theorem ZIs:setListBody=.seq (fstC setListBody) (.seq (fstC (sndC setListBody)) (.seq (fstC (sndC (sndC setListBody))) (.seq (.seq (.region (ridC (fstC setListR)) (ropsC (fstC setListR)) false) setListX.code) (.seq (.region (ridC setListSort) (ropsC setListSort) false) Zia)))):=by kernel_rfl
theorem ZMY (s:Int×SetL) (L:Lt) (k:Kt) (x:Nat→Kt) (r:Kt):evC Go.Proofs.Tryz.prog (clOf []) [] L (fstC setListBody) 0 (fun t=>k (norm Go.Proofs.Tryz.prog setLab1 t)) x r (setA s)=k (setA s):=by kernel_rfl
theorem ZLD (s:Int×SetL) (L:Lt) (k:Kt) (x:Nat→Kt) (r:Kt):evC Go.Proofs.Tryz.prog (clOf []) [] L (fstC (sndC setListBody)) 0 (fun t=>k (norm Go.Proofs.Tryz.prog setLab1 t)) x r (setA s)=k (setA s):=by kernel_rfl
theorem ZMV (s:Int×SetL) (L:Lt) (k:Kt) (x:Nat→Kt) (r:Kt):evC Go.Proofs.Tryz.prog (clOf []) [] L (fstC (sndC (sndC setListBody))) 0 (fun t=>k (norm Go.Proofs.Tryz.prog setLab1 t)) x r (setA s)=k (setC s):=by kernel_rfl
def mapKV (P:Program) (T:TypeId):TypeId×TypeId:=match P.underlying T with | some (.map K V)=>(K,V) | _=>(0,0)
theorem ZsM (s:Int×SetL) (hk:Zbj s=true):CallOK Go.Proofs.Tryz.prog 62 (toPs Zqf (s,())) (Zr7 (ZbC s)):=by
 obtain ⟨hcl,hdet⟩:=Zo0 (P:=Go.Proofs.Tryz.prog) Zt
 have hlim:s.2.length*512≤limit:=Nat.le_of_ble_eq_true hk
 refine ZlW (tb:=Zbh) (fn:=Go.Proofs.Tryz.f62) (c:=setListBody) (vs:=[.pt 1 0 0]) (st:=⟨[],[(1,0,.box 98 [.d (.int .i64) s.1,.mp 1026 0] (some 0)),(1026,0,.map (.int .i64) (.int .u64) s.2)]⟩) (by kernel_rfl) (by kernel_rfl) (by kernel_rfl) ?_
 intro _ Mod F0 w0 a w hr
 have hr:Rel Mod F0 w0 (setA s) a w:=hr
 rw[ZIs]
 refine wp_seq (piece hcl hdet (norm Go.Proofs.Tryz.prog setLab1) (fun h=>Z1 h) (ZMY s) hr fun a w hr=>?_)
 refine wp_seq (piece hcl hdet (norm Go.Proofs.Tryz.prog setLab1) (fun h=>Z1 h) (ZLD s) hr fun a w hr=>?_)
 refine wp_seq (piece hcl hdet (norm Go.Proofs.Tryz.prog setLab1) (fun h=>Z1 h) (ZMV s) hr fun a w hr=>?_)
 refine wp_seq (wp_seq (wp_region ?_))
 rw[show List.range (ropsC (fstC setListR)).size=[0,1,2,3,4] from by kernel_rfl]
 refine evOp hcl (o:=opC (fstC setListR) 0) (st1:=(setC s).put (some 11) (.pt 1 0 0)) (by kernel_rfl) (by kernel_rfl) (fun k=>by kernel_rfl) hr fun a w hr=>?_
 refine evOp hcl (o:=opC (fstC setListR) 1) (st1:=((setC s).put (some 11) (.pt 1 0 0)).put (some 12) (.pt 1 0 0)) (by kernel_rfl) (by kernel_rfl) (fun k=>by kernel_rfl) hr fun a w hr=>?_
 refine evOp hcl (o:=opC (fstC setListR) 2) (st1:=(((setC s).put (some 11) (.pt 1 0 0)).put (some 12) (.pt 1 0 0)).put (some 13) (.pt 1 0 1)) (by kernel_rfl) (by kernel_rfl) (fun k=>by kernel_rfl) hr fun a w hr=>?_
 refine evOp hcl (o:=opC (fstC setListR) 3) (st1:=setM s) (by kernel_rfl) (by kernel_rfl) (fun k=>by kernel_rfl) hr fun a w hr=>?_
 refine handOp (o:=opC (fstC setListR) 4) (by kernel_rfl) (by kernel_rfl) ?_
 refine rangeLoop (tm:=14) (idm0:=1026) (ver0:=0) (T:=(match (opC (fstC setListR) 4).op with |.range T _=>T | _=>0)) (K:=(mapKV Go.Proofs.Tryz.prog (match (opC (fstC setListR) 4).op with |.range T _=>T | _=>0)).1) (V:=(mapKV Go.Proofs.Tryz.prog (match (opC (fstC setListR) 4).op with |.range T _=>T | _=>0)).2)
  hcl hdet ZJp rfl rfl (ZKN s hk) (by kernel_rfl) (by kernel_rfl) (by kernel_rfl) (by kernel_rfl) (by kernel_rfl) (by kernel_rfl) (fun v=>by kernel_rfl) (fun v done=>by kernel_rfl) (fun v done=>by kernel_rfl) hr ?_
 intro v done a w hperm hr
 have hr:Rel Mod F0 w0 (Zei s (done.map Prod.fst)) a w:=Z1 (P:=Go.Proofs.Tryz.prog) (lab:=setLab1) hr
 refine wp_seq (wp_region ?_)
 rw[show List.range (ropsC setListSort).size=[0,1] from by kernel_rfl]
 refine evOp hcl (o:=opC setListSort 0) (st1:=(Zei s (done.map Prod.fst)).put (some 24) (.own 4 0 none)) (by kernel_rfl) (by kernel_rfl) (fun k=>by kernel_rfl) hr fun a w hr=>?_
 refine handOp (o:=opC setListSort 1) (by kernel_rfl) (by kernel_rfl) ?_
 refine sortStep (ts:=24) (id:=4) (ver:=0) (E:=3) (l:=done.map Prod.fst) (c:=(match (opC setListSort 1).op with |.call c=>c | _=>default)) (fn:=Go.Proofs.Tryz.f70) (body:=Go.Proofs.Tryz.f70.body.getD .skip) (by kernel_rfl) (by kernel_rfl) (by kernel_rfl) (by kernel_rfl) (by kernel_rfl) (by kernel_rfl) (by kernel_rfl) (by kernel_rfl) sortOK (by
  rw[List.length_map,hperm.length_eq]
  unfold limit at hlim
  omega) hr fun a w hr=>?_
 have hr:Rel Mod F0 w0 (Zei s (sorted (done.map Prod.fst))) a w:=Z1 (P:=Go.Proofs.Tryz.prog) (lab:=setLab1) hr
 rw[ZI2 (hperm.map Prod.fst)] at hr
 have hg:=Zv5 s (sorted (s.2.map Prod.fst)) (by rw[List.length_mergeSort,List.length_map];exact hk)
 exact tailStep hcl hdet (ps:=ZmN s (sorted (s.2.map Prod.fst))) rfl (by kernel_rfl) (Zvd s _) (ZuR s _) hg hr
end
noncomputable def Zho:Run:=entO Zqf Zr7 (fun a=>Zbj a.1) (fun a=>ZbC a.1)
theorem Zjy:EntOK Go.Proofs.Tryz.prog 62 Zho:=Zvk (Zn0 (ZiS (fn:=Go.Proofs.Tryz.f62) (c:=setListBody) (by kernel_rfl) (by kernel_rfl) (by kernel_rfl))) fun a h=>ZsM a.1 h
end Go.Ev
end

section
open Go Go.Ev
namespace Go.Ev
noncomputable section
def Zhg:Sig:=[(true,(.sl Za)),(false,(.int .i64))]
noncomputable def ZtJ:Tbl:=[(37,Zkq),(61,ZtG),(39,ZcU),(62,Zho)]
theorem ZIv:∀p∈ZtJ,EntOK Go.Proofs.Tryz.prog p.1 p.2:=Zg ZkY (Zg ZxF (Zg Zb6 (Zg Zjy (Zt))))
noncomputable def Zoi:Code:=Go.Proofs.Tryz.f38.body.getD .skip
def Zrx:Tb:=[(4,⟨[2,5,6],[(1000000000000000000000000000000000000000000000000000000000007,1)]⟩)]
inductive Zlh where | l4 (len:Nat) (seen:Int) (open_:List Int) (seen1:List (Int×Int))
def Zlb (t:List (El Za)) (i:Int):Zlh→JT Zlh (List Int) |.l4 len seen open_ seen1=>.br (decide ((Int.ofNat len) > (0:Int))) (.br ((decide ((0:Int)≤(IntKind.i64.wrap ((Int.ofNat len) - (1:Int)))))&&(decide ((IntKind.i64.wrap ((Int.ofNat len) - (1:Int))) < (Int.ofNat len)))) (.br ((decide ((0:Int)≤(IntKind.i64.wrap ((Int.ofNat len) - (1:Int)))))&&(decide ((IntKind.i64.wrap ((Int.ofNat len) - (1:Int)))≤(Int.ofNat len)))) (.br (Zo (seen,seen1) (List.getD open_ (Int.toNat (IntKind.i64.wrap ((Int.ofNat len) - (1:Int)))) (dflt (.int .i64)))).1 (.br (Ze2 t (List.getD open_ (Int.toNat (IntKind.i64.wrap ((Int.ofNat len) - (1:Int)))) (dflt (.int .i64)))) (.br (Nat.ble (((List.length (List.take (Int.toNat (IntKind.i64.wrap ((Int.ofNat len) - (1:Int)))) open_))+(List.length (Z7 t (List.getD open_ (Int.toNat (IntKind.i64.wrap ((Int.ofNat len) - (1:Int)))) (dflt (.int .i64))))))*8) limit) (.jmp (.l4 (List.length ((List.take (Int.toNat (IntKind.i64.wrap ((Int.ofNat len) - (1:Int)))) open_)++(Z7 t (List.getD open_ (Int.toNat (IntKind.i64.wrap ((Int.ofNat len) - (1:Int)))) (dflt (.int .i64)))))) (Zo (seen,seen1) (List.getD open_ (Int.toNat (IntKind.i64.wrap ((Int.ofNat len) - (1:Int)))) (dflt (.int .i64)))).2.1 ((List.take (Int.toNat (IntKind.i64.wrap ((Int.ofNat len) - (1:Int)))) open_)++(Z7 t (List.getD open_ (Int.toNat (IntKind.i64.wrap ((Int.ofNat len) - (1:Int)))) (dflt (.int .i64))))) (Zo (seen,seen1) (List.getD open_ (Int.toNat (IntKind.i64.wrap ((Int.ofNat len) - (1:Int)))) (dflt (.int .i64)))).2.2)) (.no)) (.no)) (.jmp (.l4 (Int.toNat (IntKind.i64.wrap ((Int.ofNat len) - (1:Int)))) (Zo (seen,seen1) (List.getD open_ (Int.toNat (IntKind.i64.wrap ((Int.ofNat len) - (1:Int)))) (dflt (.int .i64)))).2.1 open_ (Zo (seen,seen1) (List.getD open_ (Int.toNat (IntKind.i64.wrap ((Int.ofNat len) - (1:Int)))) (dflt (.int .i64)))).2.2))) (.no)) (.no)) (.br (Zbj (seen,seen1)) (.leaf (ZbC (seen,seen1)).1) (.no))
def Zsc (t:List (El Za)) (i:Int):JT Zlh (List Int):=.br (Ze2 t i) (.jmp (.l4 (List.length (Z7 t i)) (Zz (Int.ofNat (List.length t))).1 (Z7 t i) (Zz (Int.ofNat (List.length t))).2)) (.no)
def ZnZ:List Int→AV:=fun (r:List Int)=>.rw 3 (.int .i64) r
def ZgH (t:List (El Za)) (i:Int):Zlh→Nat×St |.l4 len seen open_ seen1=>(4,⟨mkTm 39 [(2,.pt 3 0 0),(5,.pt 6 0 0),(6,.own 7 0 (some len))],[(3,0,.box 33 [.d (.sl Za) t] none),(6,0,.box 98 [.d (.int .i64) seen,.mp 6146 0] none),(7,0,.row 3 (.int .i64) open_ false),(6146,0,.map (.int .i64) (.int .u64) seen1)]⟩)
theorem ZH5 (t:List (El Za)) (i:Int) (L:Lt):entryA Go.Proofs.Tryz.prog (clOf ZtJ) Zrx Go.Proofs.Tryz.f38 Zoi L (toForms Zhg (t,i,()))=(Zsc t i).run (fun v=>some (ZnZ v,tps (toForms Zhg (t,i,())))) fun j=>L (ZgH t i j).1 (ZgH t i j).2:=by kernel_rfl
theorem ZHA (t:List (El Za)) (i:Int):∀(L:Lt) (j:Zlh),procOf (procsF Go.Proofs.Tryz.prog (clOf ZtJ) Zrx Go.Proofs.Tryz.f38 Zoi (toForms Zhg (t,i,()))) (ZgH t i j).1 L (ZgH t i j).2=(Zlb t i j).run (fun v=>some (ZnZ v,tps (toForms Zhg (t,i,())))) fun j=>L (ZgH t i j).1 (ZgH t i j).2 | L,.l4 len seen open_ seen1=>by kernel_rfl
end
end Go.Ev
end

section
open Go
namespace Go.Ev
noncomputable def Zbt (t:List (El Za)) (i:Int):List Int:=listOf t.length (fromB t i)
def Zif (t:List (El Za)) (i:Int):Bool:=flowOK t
theorem ZCq (t:List (El Za)) (i:Int):(Z7 t i).length≤3:=by
 unfold Z7
 by_cases h:0≤i∧i < (t.length:Int)
 ·obtain ⟨j,rfl⟩:=Int.eq_ofNat_of_zero_le h.1
  rw[←ZKg (by omega)]
  unfold nextL
  simp only[List.length_append]
  split <;> split <;> split <;> simp
 ·rw[ZzK h];simp
theorem ZMw {l:List Int} {n:Nat} (h:n+1≤l.length):l.take (n+1)=l.take n++[l.getD n 0]:=by
 have hn:n < l.length:=by omega
 rw[List.take_succ_eq_append_getElem hn,ZH hn]
theorem ZJI (t:List (El Za)) (i:Int) (hk:Zif t i=true):Goes (Zlb t i) (Zsc t i) (Zbt t i):=by
 have hlen:=ZbL hk
 generalize hn:t.length=n at hlen
 have loop:∀m,∀(M:Nat→Bool) (s:Int×List (Int×Int)) (open_:List Int) (len:Nat),len≤open_.length→4*(n - card n M)+len=m→SetOK s n M→(∀j,M j=true→Come (fun k j=>nextB t (k:Int) j) (nextB t i) j)→
   (∀x∈open_.take len,∃j:Nat,x=(j:Int)∧Come (fun k j=>nextB t (k:Int) j) (nextB t i) j)→(∀j,nextB t i j=true→M j=true∨(j:Int)∈open_.take len)→(∀k j,M k=true→nextB t (k:Int) j=true→M j=true∨(j:Int)∈open_.take len)→
   len≤3*(card n M+1)→Goes (Zlb t i) (.jmp (.l4 len s.1 open_ s.2)) (Zbt t i):=by
  intro m
  induction m using Nat.strongRecOn with
  | _ m ih=>
  intro M s open_ len hl hm hs h1 h2 h3 h4 h5
  cases len with
  | zero=>
   rw[Zi,Zlb,Ze,if_neg (by decide)]
   have hkl:Zbj (s.1,s.2)=true:=Nat.ble_eq_true_of_le (by have:=hs.few;unfold limit;show s.2.length*512≤_;omega)
   rw[Ze,if_pos hkl]
   have hv:(ZbC (s.1,s.2)).1=Zbt t i:=by
    show listS s=_
    rw[hs.list (by omega)]
    unfold Zbt fromB
    rw[hn]
    refine Zq6 fun j _=>ZpC (fun j hj=>?_) (fun k j hk hj=>?_) h1 j
    ·simpa using h3 j hj
    ·simpa using h4 k j hk hj
   rw[hv];exact .leaf
  | succ len=>
   have hc:= @Zfe n M
   have e:IntKind.i64.wrap (Int.ofNat (len+1) - 1)=(len:Int):=by
    rw[wrap_i64 (by simp <;> omega) (by simp <;> omega)];simp
   have g1:decide (Int.ofNat (len+1) > (0:Int))=true:=decide_eq_true (by simp <;> omega)
   have g2:(decide ((0:Int)≤(len:Int))&&decide ((len:Int) < Int.ofNat (len+1)))=true:=Zaq (by omega)
   have g3:(decide ((0:Int)≤(len:Int))&&decide ((len:Int)≤Int.ofNat (len+1)))=true:=by simp;omega
   rw[Zi,Zlb,e,Ze,if_pos g1,Ze,if_pos g2,Ze,if_pos g3,Ze,Int.toNat_natCast]
   have htk:=ZMw hl
   obtain ⟨j,hj,hcj⟩:=h2 (open_.getD len 0) (by rw[htk];simp)
   have hjn:j < n:=by
    have:=ZEG (n:=t.length) (fun j=>Zel) (fun k j=>Zel) hcj
    omega
   have hd:open_.getD len (dflt (.int .i64))=(j:Int):=hj
   rw[hd]
   have hput:Zo (s.1,s.2) (j:Int)=putS s (j:Int):=rfl
   rw[hput]
   have sub:∀x,x∈open_.take len→x∈open_.take (len+1):=fun x hx=>by rw[htk];simp[hx]
   cases hMj:M j with
   | true=>
    have hno:=hs.put_no (by omega) (i:=(j:Int)) (fun h=>by rw[Int.toNat_natCast,hMj] at h;cases h.2.2)
    rw[hno,if_neg (by simp)]
    have lose:∀k:Nat,(M k=true∨(k:Int)∈open_.take (len+1))→(M k=true∨(k:Int)∈open_.take len):=fun k h=>by
     rcases h with h | h
     ·exact .inl h
     ·rw[htk,List.mem_append] at h
      rcases h with h | h
      ·exact .inr h
      ·simp only[List.mem_singleton] at h
       rw[hj] at h
       have:k=j:=by omega
       subst this
       exact .inl hMj
    exact ih (m - 1) (by omega) M s open_ len (by omega) (by omega) hs h1 (fun x hx=>h2 x (sub x hx)) (fun k hk=>lose k (h3 k hk)) (fun k k' hk hk'=>lose k' (h4 k k' hk hk')) (by omega)
   | false=>
    obtain ⟨p1,p2⟩:=hs.put (by omega) hjn hMj
    have hsh:=ZCq t (j:Int)
    have hkn:Ze2 t (j:Int)=true:=hk
    rw[p1,if_pos rfl,Ze,if_pos hkn,Ze,if_pos (Nat.ble_eq_true_of_le (by
     rw[List.length_take];unfold limit;omega))]
    have hcard:=Zmm hMj hjn
    have hcl2:= @Zfe n (fun k=>M k || (k==j))
    have hnl:∀k:Nat,nextB t (j:Int) k=true→(k:Int)∈Z7 t (j:Int):=fun k hk=>Zcv.2 ⟨k,Zel hk,hk,rfl⟩
    have htake:(open_.take len++Z7 t (j:Int)).take (open_.take len++Z7 t (j:Int)).length=open_.take len++Z7 t (j:Int):=List.take_length
    have hlen2:(open_.take len++Z7 t (j:Int)).length≤len+3:=by rw[List.length_append,List.length_take];omega
    have keep:∀k:Nat,(M k=true∨(k:Int)∈open_.take (len+1))→((M k || (k==j))=true∨(k:Int)∈open_.take len++Z7 t (j:Int)):=fun k h=>by
     rcases h with h | h
     ·exact .inl (by rw[h];rfl)
     ·rw[htk,List.mem_append] at h
      rcases h with h | h
      ·exact .inr (List.mem_append_left _ h)
      ·simp only[List.mem_singleton] at h
       rw[hj] at h
       have:k=j:=by omega
       subst this
       exact .inl (by simp)
    refine ih _ (by omega) (fun k=>M k || (k==j)) (putS s (j:Int)).2 (open_.take len++Z7 t (j:Int)) (open_.take len++Z7 t (j:Int)).length (Nat.le_refl _) rfl p2 (fun k hk=>?_) (fun x hx=>?_) (fun k hk=>?_) (fun k k' hk hk'=>?_) (by omega)
    ·simp only[Bool.or_eq_true,beq_iff_eq] at hk
     rcases hk with hk | hk
     ·exact h1 k hk
     ·subst hk;exact hcj
    ·rw[htake,List.mem_append] at hx
     rcases hx with hx | hx
     ·exact h2 x (sub x hx)
     ·obtain ⟨k,_,hk,rfl⟩:=Zcv.1 hx
      exact ⟨k,rfl,.step hcj hk⟩
    ·rw[htake];exact keep k (h3 k hk)
    ·rw[htake]
     simp only[Bool.or_eq_true,beq_iff_eq] at hk
     rcases hk with hk | hk
     ·exact keep k' (h4 k k' hk hk')
     ·subst hk
      exact .inr (List.mem_append_right _ (hnl k' hk'))
 have hkn:Ze2 t i=true:=hk
 unfold Zsc
 rw[Ze,if_pos hkn]
 have hnew:Zz (Int.ofNat (List.length t))=((n:Int),[]):=by
  rw[hn]
  unfold Zz
  simp
  omega
 rw[hnew]
 refine loop _ (fun _=>false) ((n:Int),[]) (Z7 t i) _ (Nat.le_refl _) rfl (SetOK.new n) (fun j h=>by cases h) (fun x hx=>?_) (fun j hj=>.inr ?_) (fun k j h=>by cases h) (by have:=ZCq t i;omega)
 ·rw[List.take_length] at hx
  obtain ⟨k,_,hk,rfl⟩:=Zcv.1 hx
  exact ⟨k,rfl,.start hk⟩
 ·rw[List.take_length];exact Zcv.2 ⟨j,Zel hj,hj,rfl⟩
end Go.Ev
end

section
open Go Go.Ev
namespace Go.Ev
noncomputable section
noncomputable def ZtZ:Run:=entG Zhg ZnZ (fun a=>Zif a.1 a.2.1) (fun a=>Zbt a.1 a.2.1)
theorem ZwG:EntOK Go.Proofs.Tryz.prog 38 ZtZ:=ZM (tb:=Zrx) (c:=Zoi) ZIv (by kernel_rfl) (by kernel_rfl) (by kernel_rfl) (fun a=>by kernel_rfl) fun ⟨t,i,_⟩ hk=>Zm (c:=Zoi) (K:=fun v=>(ZnZ v,tps (toForms Zhg (t,i,())))) (S:=ZgH t i) (by kernel_rfl) (ZH5 t i) (ZHA t i) (ZJI t i hk)
end
end Go.Ev
end

section
open Go Go.Ev
namespace Go.Ev
noncomputable section
def Zlg:PSig:=[.dat false (.int .i64),.obj 67 [(.d (.sl Zb))],.obj 3 [(.d (.int .i64))],.ptr 80 98 [(.d (.int .i64)),(.m (.int .i64) (.int .u64))],.obj 36 [(.w 3 (.int .i64))],.obj 3 [(.d (.int .i64))],.ptr 80 98 [(.d (.int .i64)),(.m (.int .i64) (.int .u64))]]
noncomputable def Znt:Tbl:=[(65,Zvm),(39,ZcU)]
theorem ZzN:∀p∈Znt,EntOK Go.Proofs.Tryz.prog p.1 p.2:=Zg ZAv (Zg Zb6 (Zt))
noncomputable def Zf0:Code:=Go.Proofs.Tryz.f64.body.getD .skip
def Zlp:Tb:=[(1,⟨[0,1,2,3,4,5,6,10,11,12],[]⟩)]
inductive Zf4 where | l1 (h:Int) (h1:Int) (h2:List Int) (h3:List (Int×Int)) (h4:Int) (h5:List (Int×Int))
def Zf3 (x:Int) (l:List (El Zb)) (own:Int) (come:Int×List (Int×Int)) (open_:List Int) (a:Int) (back:Int×List (Int×Int)):Zf4→JT Zf4 ((List (El Zb))×Int×(Int×List (Int×Int))×(List Int)×Int×Int×List (Int×Int)) |.l1 h h1 h2 h3 h4 h5=>.br (decide (h < (Int.ofNat (List.length l)))) (.br ((decide ((0:Int)≤h))&&(decide (h < (Int.ofNat (List.length l))))) (.br ((decide ((0:Int)≤x))&&(decide (x < (Int.ofNat (List.length l))))) (.br (! (ZfE (List.getD l (Int.toNat x) (dflt Zb)) (List.getD l (Int.toNat h) (dflt Zb)))) (.jmp (.l1 (IntKind.i64.wrap (h+(1:Int))) h1 h2 h3 h4 h5)) (.br ((List.getD l (Int.toNat h) (dflt Zb)).1 !=own) (.br (Zo (h1,h3) h).1 (.br (Nat.ble (((List.length h2)+1)*8) limit) (.jmp (.l1 (IntKind.i64.wrap (h+(1:Int))) (Zo (h1,h3) h).2.1 (h2++[h]) (Zo (h1,h3) h).2.2 h4 h5)) (.no)) (.jmp (.l1 (IntKind.i64.wrap (h+(1:Int))) (Zo (h1,h3) h).2.1 h2 (Zo (h1,h3) h).2.2 h4 h5))) (.br (x !=a) (.jmp (.l1 (IntKind.i64.wrap (h+(1:Int))) h1 h2 h3 (Zo (h4,h5) h).2.1 (Zo (h4,h5) h).2.2)) (.jmp (.l1 (IntKind.i64.wrap (h+(1:Int))) h1 h2 h3 h4 h5))))) (.no)) (.no)) (.leaf (l,(own,((h1,h3),(h2,(a,(h4,h5)))))))
def Zr0 (x:Int) (l:List (El Zb)) (own:Int) (come:Int×List (Int×Int)) (open_:List Int) (a:Int) (back:Int×List (Int×Int)):JT Zf4 ((List (El Zb))×Int×(Int×List (Int×Int))×(List Int)×Int×Int×List (Int×Int)):=.jmp (.l1 (0:Int) come.1 open_ come.2 back.1 back.2)
def ZiF:(List (El Zb))×Int×(Int×List (Int×Int))×(List Int)×Int×Int×List (Int×Int)→Ans:=fun (r:(List (El Zb))×Int×(Int×List (Int×Int))×(List Int)×Int×Int×List (Int×Int))=>(.tu [],[.top,.bx 67 [.d (.sl Zb) r.1],.bx 3 [.d (.int .i64) r.2.1],.bx 80 [.bx 98 [.d (.int .i64) r.2.2.1.1,.mv (.int .i64) (.int .u64) r.2.2.1.2]],.bx 36 [.rw 3 (.int .i64) r.2.2.2.1],.bx 3 [.d (.int .i64) r.2.2.2.2.1],.bx 80 [.bx 98 [.d (.int .i64) r.2.2.2.2.2.1,.mv (.int .i64) (.int .u64) r.2.2.2.2.2.2]]])
def ZcS (x:Int) (l:List (El Zb)) (own:Int) (come:Int×List (Int×Int)) (open_:List Int) (a:Int) (back:Int×List (Int×Int)):Zf4→Nat×St |.l1 h h1 h2 h3 h4 h5=>(1,⟨mkTm 42 [(0,.d (.int .i64) x),(1,.pt 2 0 0),(2,.pt 3 0 0),(3,.pt 4 0 0),(4,.pt 5 0 0),(5,.pt 6 0 0),(6,.pt 7 0 0),(10,.d (.sl Zb) l),(11,.d (.int .i64) (Int.ofNat (List.length l))),(12,.d (.int .i64) h)],[(2,0,.box 67 [.d (.sl Zb) l] (some 1)),(3,0,.box 3 [.d (.int .i64) own] (some 2)),(4,0,.box 80 [.pt 4097 0 0] (some 3)),(5,0,.box 36 [.own 5121 0 none] (some 4)),(6,0,.box 3 [.d (.int .i64) a] (some 5)),(7,0,.box 80 [.pt 7169 0 0] (some 6)),(4097,0,.box 98 [.d (.int .i64) h1,.mp 4195330 0] none),(5121,0,.row 3 (.int .i64) h2 false),(7169,0,.box 98 [.d (.int .i64) h4,.mp 7341058 0] none),(4195330,0,.map (.int .i64) (.int .u64) h3),(7341058,0,.map (.int .i64) (.int .u64) h5)]⟩)
theorem Zy7 (x:Int) (l:List (El Zb)) (own:Int) (come:Int×List (Int×Int)) (open_:List Int) (a:Int) (back:Int×List (Int×Int)) (L:Lt):entryA Go.Proofs.Tryz.prog (clOf Znt) Zlp Go.Proofs.Tryz.f64 Zf0 L (toPs Zlg (x,l,own,come,open_,a,back,()))=(Zr0 x l own come open_ a back).run (fun v=>some (ZiF v)) fun j=>L (ZcS x l own come open_ a back j).1 (ZcS x l own come open_ a back j).2:=by kernel_rfl
theorem ZyC (x:Int) (l:List (El Zb)) (own:Int) (come:Int×List (Int×Int)) (open_:List Int) (a:Int) (back:Int×List (Int×Int)):∀(L:Lt) (j:Zf4),procOf (procsF Go.Proofs.Tryz.prog (clOf Znt) Zlp Go.Proofs.Tryz.f64 Zf0 (toPs Zlg (x,l,own,come,open_,a,back,()))) (ZcS x l own come open_ a back j).1 L (ZcS x l own come open_ a back j).2=(Zf3 x l own come open_ a back j).run (fun v=>some (ZiF v)) fun j=>L (ZcS x l own come open_ a back j).1 (ZcS x l own come open_ a back j).2 | L,.l1 h h1 h2 h3 h4 h5=>by kernel_rfl
end
end Go.Ev
end

section
open Go
namespace Go.Ev
abbrev SetT:=Int×List (Int×Int)
def meet1 (l : List Acc) (x own a : Int) (h : Nat) (s : SetT × List Int × SetT) : SetT × List Int × SetT :=
  if clB l x.toNat h = true then
    (if thA l h ≠ own then ((putS s.1 (h : Int)).2, (if (putS s.1 (h : Int)).1 = true then s.2.1 ++ [(h : Int)] else s.2.1), s.2.2)
     else if x ≠ a then (s.1, s.2.1, (putS s.2.2 (h : Int)).2) else s)
  else s
def meetF (l:List Acc) (x own a:Int):List Nat→SetT×List Int×SetT→SetT×List Int×SetT
 | [],s=>s
 | h :: r,s=>meetF l x own a r (meet1 l x own a h s)
def ZV (x:Int) (l:List (El Zb)) (own:Int) (come:SetT) (open_:List Int) (a:Int) (back:SetT):(List (El Zb))×Int×SetT×(List Int)×Int×SetT:=
 (l,own,(meetF l x own a (List.range' 0 l.length) (come,open_,back)).1,(meetF l x own a (List.range' 0 l.length) (come,open_,back)).2.1,a,(meetF l x own a (List.range' 0 l.length) (come,open_,back)).2.2)
def Zf6 (x:Int) (l:List (El Zb)) (own:Int) (come:SetT) (open_:List Int) (a:Int) (back:SetT):Bool:=decide (0≤x∧x < (l.length:Int)∧l.length < 1099511627776∧open_.length < 1099511627776)
theorem ZBl (x:Int) (l:List (El Zb)) (own:Int) (come:SetT) (open_:List Int) (a:Int) (back:SetT) (hk:Zf6 x l own come open_ a back=true):Goes (Zf3 x l own come open_ a back) (Zr0 x l own come open_ a back) (ZV x l own come open_ a back):=by
 obtain ⟨x0,x1,hN,hO⟩:=of_decide_eq_true hk
 obtain ⟨T,hT⟩:∃T,T=Zf3 x l own come open_ a back:=⟨_,rfl⟩
 rw[←hT]
 have loop:∀h,h≤l.length→∀s:SetT×List Int×SetT,s.2.1.length≤open_.length+h→Goes T (.jmp (.l1 (h:Int) s.1.1 s.2.1 s.1.2 s.2.2.1 s.2.2.2)) (l,own,(meetF l x own a (List.range' h (l.length - h)) s).1,(meetF l x own a (List.range' h (l.length - h)) s).2.1,a,(meetF l x own a (List.range' h (l.length - h)) s).2.2):=by
  refine down ?_ fun h hh ih=>?_
  ·intro s hs
   rw[Zi,hT,Zf3,←hT,Ze,if_neg (by rw[Zy (Nat.lt_irrefl _)];decide),Nat.sub_self]
   exact .leaf
  ·intro s hs
   have hx1:decide ((0:Int)≤x)=true:=decide_eq_true x0
   have hx2:decide (x < Int.ofNat l.length)=true:=decide_eq_true x1
   rw[show l.length - h=(l.length - (h+1))+1 by omega,List.range'_succ,meetF]
   have ec:ZfE (List.getD l x.toNat (dflt Zb)) (List.getD l h (dflt Zb))=clB l x.toNat h:=rfl
   have et:(List.getD l h (dflt Zb)).1=thA l h:=rfl
   have hp:Zo (s.1.1,s.1.2) (h:Int)=putS s.1 (h:Int):=rfl
   have hp2:Zo (s.2.2.1,s.2.2.2) (h:Int)=putS s.2.2 (h:Int):=rfl
   have b1:Nat.ble ((s.2.1.length+1)*8) limit=true:=Nat.ble_eq_true_of_le (by unfold limit;omega)
   have key:=ih (meet1 l x own a h s)
   rw[Zi,hT,Zf3,←hT]
   simp only[Ze,ZS hh,nng,hx1,hx2,Bool.and_self,if_true,Int.toNat_natCast,ec,et,hp,hp2,b1,Zr (k:=h) (by omega)]
   by_cases c1:clB l x.toNat h=true
   ·rw[if_neg (by rw[c1];decide)]
    by_cases c2:thA l h=own
    ·rw[if_neg (by simp[c2])]
     by_cases c3:x=a
     ·have hm:meet1 l x own a h s=s:=by unfold meet1;rw[if_pos c1,if_neg (by simp[c2]),if_neg (by simp[c3])]
      rw[hm] at key ⊢
      rw[if_neg (by simp[c3])]
      exact key (by omega)
     ·have hm:meet1 l x own a h s=(s.1,s.2.1,(putS s.2.2 (h:Int)).2):=by unfold meet1;rw[if_pos c1,if_neg (by simp[c2]),if_pos c3]
      rw[hm] at key ⊢
      rw[if_pos (by simpa using c3)]
      exact key (by show s.2.1.length≤_;omega)
    ·rw[if_pos (by simpa using c2)]
     by_cases c4:(putS s.1 (h:Int)).1=true
     ·have hm:meet1 l x own a h s=((putS s.1 (h:Int)).2,s.2.1++[(h:Int)],s.2.2):=by unfold meet1;rw[if_pos c1,if_pos c2,if_pos c4]
      rw[hm] at key ⊢
      rw[if_pos c4]
      exact key (by show (s.2.1++[(h:Int)]).length≤_;simp;omega)
     ·have hm:meet1 l x own a h s=((putS s.1 (h:Int)).2,s.2.1,s.2.2):=by unfold meet1;rw[if_pos c1,if_pos c2,if_neg c4]
      rw[hm] at key ⊢
      rw[if_neg c4]
      exact key (by show s.2.1.length≤_;omega)
   ·have hm:meet1 l x own a h s=s:=by unfold meet1;rw[if_neg c1]
    rw[hm] at key ⊢
    rw[if_pos (by simpa using c1)]
    exact key (by omega)
 exact loop 0 (Nat.zero_le _) (come,open_,back) (by simp)
end Go.Ev
end

section
open Go Go.Ev
namespace Go.Ev
noncomputable section
noncomputable def Ztp:Run:=entO Zlg ZiF (fun a=>Zf6 a.1 a.2.1 a.2.2.1 a.2.2.2.1 a.2.2.2.2.1 a.2.2.2.2.2.1 a.2.2.2.2.2.2.1) (fun a=>ZV a.1 a.2.1 a.2.2.1 a.2.2.2.1 a.2.2.2.2.1 a.2.2.2.2.2.1 a.2.2.2.2.2.2.1)
theorem ZzC:EntOK Go.Proofs.Tryz.prog 64 Ztp:=ZIF (tb:=Zlp) (c:=Zf0) (Zn0 (ZiS (fn:=Go.Proofs.Tryz.f64) (c:=Zf0) (by kernel_rfl) (by kernel_rfl) (by kernel_rfl))) ZzN (by kernel_rfl) (by kernel_rfl) (fun a=>by kernel_rfl) fun ⟨x,l,own,come,open_,a,back,_⟩ hk=>Zm (c:=Zf0) (K:=ZiF) (S:=ZcS x l own come open_ a back) (by kernel_rfl) (Zy7 x l own come open_ a back) (ZyC x l own come open_ a back) (ZBl x l own come open_ a back hk)
end
end Go.Ev
end

section
open Go Go.Ev
namespace Go.Ev
noncomputable section
def Zc4:Sig:=[(true,Zc),(false,(.sl Zb)),(false,(.int .i64))]
noncomputable def ZmT:Tbl:=[(37,Zkq),(38,ZtZ),(39,ZcU),(40,Zf1)]
theorem Zy9:∀p∈ZmT,EntOK Go.Proofs.Tryz.prog p.1 p.2:=Zg ZkY (Zg ZwG (Zg Zb6 (Zg Ze5 (Zt))))
noncomputable def ZiG:Code:=Go.Proofs.Tryz.f66.body.getD .skip
def Zlf:Tb:=[(6,⟨[1,2,7,9,32,33,34,58,64,69,70,72,76],[]⟩),(14,⟨[2,7,9,12,42,43,44],[(13,72)]⟩)]
inductive ZfZ where | l6 (h:Int) (x:Int) (x1:Int) (x2:Int) (x3:Int) (x4:Bool) (x5:Bool) (from_:Int) (h1:List Int) (from_1:List (Int×Int)) (h2:Int) | l14 (x:Int) (x1:Int) (x2:Int) (x3:Int) (x4:Bool) (x5:Bool) (from_:Int) (from_1:List (Int×Int)) (h:Int) (out:List Int)
def Zbe (p:El Zc) (l:List (El Zb)) (c:Int):ZfZ→JT ZfZ (List Int) |.l6 h x x1 x2 x3 x4 x5 from_ h1 from_1 h2=>.br (decide (h2 < h)) (.br ((decide ((0:Int)≤h2))&&(decide (h2 < (Int.ofNat (List.length h1))))) (.jmp (.l6 h x x1 x2 x3 x4 x5 (Zo (from_,from_1) (List.getD h1 (Int.toNat h2) (dflt (.int .i64)))).2.1 h1 (Zo (from_,from_1) (List.getD h1 (Int.toNat h2) (dflt (.int .i64)))).2.2 (IntKind.i64.wrap (h2+(1:Int))))) (.no)) (.jmp (.l14 x x1 x2 x3 x4 x5 from_ from_1 (0:Int) [])) |.l14 x x1 x2 x3 x4 x5 from_ from_1 h out=>.br (decide (h < (Int.ofNat (List.length l)))) (.br ((decide ((0:Int)≤h))&&(decide (h < (Int.ofNat (List.length l))))) (.br ((List.getD l (Int.toNat h) (dflt Zb)).1==x) (.br (h==c) (.br (Nat.ble (((List.length out)+1)*8) limit) (.jmp (.l14 x x1 x2 x3 x4 x5 from_ from_1 (IntKind.i64.wrap (h+(1:Int))) (out++[h]))) (.no)) (.br ((List.getD l (Int.toNat h) (dflt Zb)).2.1==x1) (.br (decide ((List.getD l (Int.toNat h) (dflt Zb)).2.2.1 > x2)) (.br (Nat.ble (((List.length out)+1)*8) limit) (.jmp (.l14 x x1 x2 x3 x4 x5 from_ from_1 (IntKind.i64.wrap (h+(1:Int))) (out++[h]))) (.no)) (.br (Zp (from_,from_1) (List.getD l (Int.toNat h) (dflt Zb)).2.1).1 (.br (Nat.ble (((List.length out)+1)*8) limit) (.jmp (.l14 x x1 x2 x3 x4 x5 (Zp (from_,from_1) (List.getD l (Int.toNat h) (dflt Zb)).2.1).2.1 (Zp (from_,from_1) (List.getD l (Int.toNat h) (dflt Zb)).2.1).2.2 (IntKind.i64.wrap (h+(1:Int))) (out++[h]))) (.no)) (.jmp (.l14 x x1 x2 x3 x4 x5 (Zp (from_,from_1) (List.getD l (Int.toNat h) (dflt Zb)).2.1).2.1 (Zp (from_,from_1) (List.getD l (Int.toNat h) (dflt Zb)).2.1).2.2 (IntKind.i64.wrap (h+(1:Int))) out)))) (.br (Zp (from_,from_1) (List.getD l (Int.toNat h) (dflt Zb)).2.1).1 (.br (Nat.ble (((List.length out)+1)*8) limit) (.jmp (.l14 x x1 x2 x3 x4 x5 (Zp (from_,from_1) (List.getD l (Int.toNat h) (dflt Zb)).2.1).2.1 (Zp (from_,from_1) (List.getD l (Int.toNat h) (dflt Zb)).2.1).2.2 (IntKind.i64.wrap (h+(1:Int))) (out++[h]))) (.no)) (.jmp (.l14 x x1 x2 x3 x4 x5 (Zp (from_,from_1) (List.getD l (Int.toNat h) (dflt Zb)).2.1).2.1 (Zp (from_,from_1) (List.getD l (Int.toNat h) (dflt Zb)).2.1).2.2 (IntKind.i64.wrap (h+(1:Int))) out))))) (.jmp (.l14 x x1 x2 x3 x4 x5 from_ from_1 (IntKind.i64.wrap (h+(1:Int))) out))) (.no)) (.leaf out)
def Zli (p:El Zc) (l:List (El Zb)) (c:Int):JT ZfZ (List Int):=.br ((decide ((0:Int)≤c))&&(decide (c < (Int.ofNat (List.length l))))) (.br ((decide ((0:Int)≤(List.getD l (Int.toNat c) (dflt Zb)).1))&&(decide ((List.getD l (Int.toNat c) (dflt Zb)).1 < (Int.ofNat (List.length p.2))))) (.br (Zif (List.getD p.2 (Int.toNat (List.getD l (Int.toNat c) (dflt Zb)).1) (dflt (.sl Za))) (List.getD l (Int.toNat c) (dflt Zb)).2.1) (.jmp (.l6 (Int.ofNat (List.length (Zbt (List.getD p.2 (Int.toNat (List.getD l (Int.toNat c) (dflt Zb)).1) (dflt (.sl Za))) (List.getD l (Int.toNat c) (dflt Zb)).2.1))) (List.getD l (Int.toNat c) (dflt Zb)).1 (List.getD l (Int.toNat c) (dflt Zb)).2.1 (List.getD l (Int.toNat c) (dflt Zb)).2.2.1 (List.getD l (Int.toNat c) (dflt Zb)).2.2.2.1 (List.getD l (Int.toNat c) (dflt Zb)).2.2.2.2.1 (List.getD l (Int.toNat c) (dflt Zb)).2.2.2.2.2 (Zz (Int.ofNat (List.length (List.getD p.2 (Int.toNat (List.getD l (Int.toNat c) (dflt Zb)).1) (dflt (.sl Za)))))).1 (Zbt (List.getD p.2 (Int.toNat (List.getD l (Int.toNat c) (dflt Zb)).1) (dflt (.sl Za))) (List.getD l (Int.toNat c) (dflt Zb)).2.1) (Zz (Int.ofNat (List.length (List.getD p.2 (Int.toNat (List.getD l (Int.toNat c) (dflt Zb)).1) (dflt (.sl Za)))))).2 (0:Int))) (.no)) (.no)) (.no)
def ZiM:List Int→AV:=fun (r:List Int)=>.rw 3 (.int .i64) r
def ZcT (p:El Zc) (l:List (El Zb)) (c:Int):ZfZ→Nat×St |.l6 h x x1 x2 x3 x4 x5 from_ h1 from_1 h2=>(6,⟨mkTm 85 [(1,.d (.sl Zb) l),(2,.d (.int .i64) c),(7,.pt 8 0 0),(9,.pt 10 0 0),(32,.own 33 0 none),(33,.d (.int .i64) h),(34,.d (.int .i64) h2)],[(8,0,.box 70 [.d (.int .i64) x,.d (.int .i64) x1,.d (.int .i64) x2,.d (.int .i64) x3,.d .bool x4,.d .bool x5] none),(10,0,.box 98 [.d (.int .i64) from_,.mp 10242 0] none),(33,0,.row 3 (.int .i64) h1 false),(10242,0,.map (.int .i64) (.int .u64) from_1)]⟩) |.l14 x x1 x2 x3 x4 x5 from_ from_1 h out=>(14,⟨mkTm 85 [(2,.d (.int .i64) c),(7,.pt 8 0 0),(9,.pt 10 0 0),(12,.own 13 0 none),(42,.d (.sl Zb) l),(43,.d (.int .i64) (Int.ofNat (List.length l))),(44,.d (.int .i64) h)],[(8,0,.box 70 [.d (.int .i64) x,.d (.int .i64) x1,.d (.int .i64) x2,.d (.int .i64) x3,.d .bool x4,.d .bool x5] none),(10,0,.box 98 [.d (.int .i64) from_,.mp 10242 0] none),(13,0,.row 3 (.int .i64) out false),(10242,0,.map (.int .i64) (.int .u64) from_1)]⟩)
theorem ZyK (p:El Zc) (l:List (El Zb)) (c:Int) (L:Lt):entryA Go.Proofs.Tryz.prog (clOf ZmT) Zlf Go.Proofs.Tryz.f66 ZiG L (toForms Zc4 (p,l,c,()))=(Zli p l c).run (fun v=>some (ZiM v,tps (toForms Zc4 (p,l,c,())))) fun j=>L (ZcT p l c j).1 (ZcT p l c j).2:=by kernel_rfl
theorem ZzB (p:El Zc) (l:List (El Zb)) (c:Int):∀(L:Lt) (j:ZfZ),procOf (procsF Go.Proofs.Tryz.prog (clOf ZmT) Zlf Go.Proofs.Tryz.f66 ZiG (toForms Zc4 (p,l,c,()))) (ZcT p l c j).1 L (ZcT p l c j).2=(Zbe p l c j).run (fun v=>some (ZiM v,tps (toForms Zc4 (p,l,c,())))) fun j=>L (ZcT p l c j).1 (ZcT p l c j).2 | L,.l6 h x x1 x2 x3 x4 x5 from_ h1 from_1 h2=>by kernel_rfl | L,.l14 x x1 x2 x3 x4 x5 from_ from_1 h out=>by kernel_rfl
end
end Go.Ev
end

section
open Go
namespace Go.Ev
noncomputable def Zb2 (p:El Zc) (l:List (El Zb)) (c:Int):List Int:=listOf l.length (behB p l c.toNat)
def Zd7 (p:El Zc) (l:List (El Zb)) (c:Int):Bool:=decide (0≤c∧c < (l.length:Int)∧l.length < 1099511627776)&&(decide (0≤thA l c.toNat∧thA l c.toNat < (p.2.length:Int))&&flowOK (thrOf p l c.toNat))
theorem ZAS (p:El Zc) (l:List (El Zb)) (c:Int) (hk:Zd7 p l c=true):Goes (Zbe p l c) (Zli p l c) (Zb2 p l c):=by
 unfold Zd7 at hk
 simp only[Bool.and_eq_true,decide_eq_true_eq] at hk
 obtain ⟨⟨c0,c1,hN⟩,⟨t0,t1⟩,hf⟩:=hk
 obtain ⟨c,rfl⟩:=Int.eq_ofNat_of_zero_le c0
 rw[Int.toNat_natCast] at t0 t1 hf
 have hc:c < l.length:=by omega
 have htl:=ZbL hf
 obtain ⟨t,ht⟩:∃t,thrOf p l c=t:=⟨_,rfl⟩
 have hg:List.getD p.2 (Int.toNat (List.getD l c (dflt Zb)).1) (dflt (.sl Za))=t:=ht
 rw[ht] at hf htl
 have kf:Zif t (List.getD l c (dflt Zb)).2.1=true:=hf
 obtain ⟨L,hL⟩:∃L,Zbt t (List.getD l c (dflt Zb)).2.1=L:=⟨_,rfl⟩
 have hLl:L.length≤t.length:=by rw[←hL];unfold Zbt;rw[ZhX];exact Zfe
 have hmem:∀x,x∈L↔∃i:Nat,i < t.length∧fromB t (inA l c) i=true∧x=(i:Int):=fun x=>by rw[←hL];exact Zcv
 unfold Zli Zb2
 rw[Ze,if_pos (Zaq hc),Ze,Int.toNat_natCast]
 have hth:(decide ((0:Int)≤(List.getD l c (dflt Zb)).1)&&decide ((List.getD l c (dflt Zb)).1 < Int.ofNat p.2.length))=true:=by
  rw[Bool.and_eq_true,decide_eq_true_eq,decide_eq_true_eq];exact ⟨t0,t1⟩
 rw[if_pos hth,Ze,hg,if_pos kf,hL]
 have hnew:Zz (Int.ofNat (List.length t))=(((t.length:Nat):Int),[]):=by
  unfold Zz
  simp
  omega
 rw[hnew]
 have second:∀(s:Int×List (Int×Int)),SetOK s t.length (fromB t (inA l c))→∀h,h≤l.length→∀out:List Int,out.length≤h→
   Goes (Zbe p l (c:Int)) (.jmp (.l14 (List.getD l c (dflt Zb)).1 (List.getD l c (dflt Zb)).2.1 (List.getD l c (dflt Zb)).2.2.1 (List.getD l c (dflt Zb)).2.2.2.1 (List.getD l c (dflt Zb)).2.2.2.2.1 (List.getD l c (dflt Zb)).2.2.2.2.2 s.1 s.2 (h:Int) out)) (out++listR l.length (behB p l c) h):=by
  intro s hs
  refine down ?_ fun h hh ih=>?_
  ·intro out ho
   rw[Zi,Zbe,Ze,if_neg (by rw[Zy (Nat.lt_irrefl _)];decide),ZMa,List.append_nil]
   exact .leaf
  ·intro out ho
   have b1:Nat.ble ((out.length+1)*8) limit=true:=Nat.ble_eq_true_of_le (by unfold limit;omega)
   have hhas:Zp (s.1,s.2) (inA l h)=(decide (0≤inA l h)&&fromB t (inA l c) (inA l h).toNat,s):=by
    show (hasS s (inA l h),s)=_
    rw[hs.has (by omega)]
   have add:behB p l c h=true→Goes (Zbe p l (c:Int)) (.jmp (.l14 (List.getD l c (dflt Zb)).1 (List.getD l c (dflt Zb)).2.1 (List.getD l c (dflt Zb)).2.2.1 (List.getD l c (dflt Zb)).2.2.2.1 (List.getD l c (dflt Zb)).2.2.2.2.1 (List.getD l c (dflt Zb)).2.2.2.2.2 s.1 s.2 ((h+1:Nat):Int) (out++[(h:Int)]))) (out++listR l.length (behB p l c) h):=fun hb=>by
    rw[ZB1 hh,if_pos hb]
    have:=ih (out++[(h:Int)]) (by simp;omega)
    rwa[List.append_assoc] at this
   have skip:behB p l c h=false→Goes (Zbe p l (c:Int)) (.jmp (.l14 (List.getD l c (dflt Zb)).1 (List.getD l c (dflt Zb)).2.1 (List.getD l c (dflt Zb)).2.2.1 (List.getD l c (dflt Zb)).2.2.2.1 (List.getD l c (dflt Zb)).2.2.2.2.1 (List.getD l c (dflt Zb)).2.2.2.2.2 s.1 s.2 ((h+1:Nat):Int) out)) (out++listR l.length (behB p l c) h):=fun hb=>by
    rw[ZB1 hh,hb,if_neg (by decide)]
    exact ih out (by omega)
   have e1:(List.getD l h (dflt Zb)).1=thA l h:=rfl
   have e2:(List.getD l h (dflt Zb)).2.1=inA l h:=rfl
   have e3:(List.getD l h (dflt Zb)).2.2.1=paA l h:=rfl
   have f1:(List.getD l c (dflt Zb)).1=thA l c:=rfl
   have f2:(List.getD l c (dflt Zb)).2.1=inA l c:=rfl
   have f3:(List.getD l c (dflt Zb)).2.2.1=paA l c:=rfl
   have hbe:behB p l c h=(thA l h==thA l c&&(h==c || ((inA l h==inA l c&&decide (paA l h > paA l c)) || (decide (0≤inA l h)&&fromB t (inA l c) (inA l h).toNat)))):=by
    unfold behB
    rw[decide_eq_true hh,Bool.true_and,ht]
   have hhc:((h:Int)==(c:Int))=(h==c):=by
    by_cases e:h=c
    ·subst e;simp
    ·have:(h==c)=false:=by simpa using e
     rw[this];simp;omega
   rw[Zi,Zbe]
   simp only[Ze,ZS hh,nng,Bool.and_self,if_true,Int.toNat_natCast,b1,Zr (k:=h) (by omega),e1,e2,e3,hhas,hhc]
   rw[f1,f2,f3] at*
   generalize hq:(decide (0≤inA l h)&&fromB t (inA l c) (inA l h).toNat)=q at*
   by_cases c1:(thA l h==thA l c)=true
   ·rw[if_pos c1]
    rw[c1,Bool.true_and] at hbe
    by_cases c2:(h==c)=true
    ·rw[if_pos c2]
     rw[c2,Bool.true_or] at hbe
     exact add hbe
    ·rw[if_neg c2]
     rw[Bool.eq_false_iff.2 c2,Bool.false_or] at hbe
     by_cases c3:(inA l h==inA l c)=true
     ·rw[if_pos c3]
      rw[c3,Bool.true_and] at hbe
      by_cases c4:decide (paA l h > paA l c)=true
      ·rw[if_pos c4]
       rw[c4,Bool.true_or] at hbe
       exact add hbe
      ·rw[if_neg c4]
       rw[Bool.eq_false_iff.2 c4,Bool.false_or] at hbe
       cases q with
       | true=>rw[if_pos rfl];exact add hbe
       | false=>rw[if_neg (by decide)];exact skip hbe
     ·rw[if_neg c3]
      rw[Bool.eq_false_iff.2 c3,Bool.false_and,Bool.false_or] at hbe
      cases q with
      | true=>rw[if_pos rfl];exact add hbe
      | false=>rw[if_neg (by decide)];exact skip hbe
   ·rw[if_neg c1]
    rw[Bool.eq_false_iff.2 c1,Bool.false_and] at hbe
    exact skip hbe
 have first:∀h,h≤L.length→∀(s:Int×List (Int×Int)),SetOK s t.length (fun j=>(L.take h).contains (j:Int))→
   Goes (Zbe p l (c:Int)) (.jmp (.l6 (Int.ofNat L.length) (List.getD l c (dflt Zb)).1 (List.getD l c (dflt Zb)).2.1 (List.getD l c (dflt Zb)).2.2.1 (List.getD l c (dflt Zb)).2.2.2.1 (List.getD l c (dflt Zb)).2.2.2.2.1 (List.getD l c (dflt Zb)).2.2.2.2.2 s.1 L s.2 (h:Int))) (listOf l.length (behB p l c)):=by
  refine down ?_ fun h hh ih=>?_
  ·intro s hs
   rw[Zi,Zbe,Ze,if_neg (by simp)]
   have:=second s (hs.congr' fun j=>by
    rw[List.take_length,Bool.eq_iff_iff,List.contains_iff_mem,hmem]
    constructor
    ·rintro ⟨i,_,h1,h2⟩;have:j=i:=by omega
     subst this;exact h1
    ·intro h;exact ⟨j,ZNa h,h,rfl⟩) 0 (Nat.zero_le _) [] (Nat.le_refl _)
   rwa[List.nil_append,ZLb] at this
  ·intro s hs
   obtain ⟨i,hi,_,hie⟩:=(hmem L[h]).1 (List.getElem_mem hh)
   obtain ⟨_,p2⟩:=hs.putO (by omega) hi
   have hp:Zo (s.1,s.2) (i:Int)=putS s (i:Int):=rfl
   rw[Zi,Zbe,Ze,if_pos (ZS hh),Ze,if_pos (Zaq hh),Int.toNat_natCast,ZH hh,hie,hp,Zr (by omega)]
   refine ih _ (p2.congr' fun j=>?_)
   rw[List.take_succ_eq_append_getElem hh,Bool.eq_iff_iff,Bool.or_eq_true,List.contains_iff_mem,List.contains_iff_mem,List.mem_append,List.mem_singleton,hie,beq_iff_eq]
   exact or_congr Iff.rfl (by omega)
 exact first 0 (Nat.zero_le _) (((t.length:Nat):Int),[]) ((SetOK.new t.length).congr' fun j=>by simp)
end Go.Ev
end

section
open Go Go.Ev
namespace Go.Ev
noncomputable section
noncomputable def Ztc:Run:=entG Zc4 ZiM (fun a=>Zd7 a.1 a.2.1 a.2.2.1) (fun a=>Zb2 a.1 a.2.1 a.2.2.1)
theorem Zz8:EntOK Go.Proofs.Tryz.prog 66 Ztc:=ZM (tb:=Zlf) (c:=ZiG) Zy9 (by kernel_rfl) (by kernel_rfl) (by kernel_rfl) (fun a=>by kernel_rfl) fun ⟨p,l,c,_⟩ hk=>Zm (c:=ZiG) (K:=fun v=>(ZiM v,tps (toForms Zc4 (p,l,c,())))) (S:=ZcT p l c) (by kernel_rfl) (ZyK p l c) (ZzB p l c) (ZAS p l c hk)
end
end Go.Ev
end

section
open Go Go.Ev
namespace Go.Ev
noncomputable section
def ZfA:Sig:=[(true,Zc),(false,(.int .i64))]
noncomputable def ZrF:Tbl:=[(35,Zwm),(37,Zkq),(64,Ztp),(66,Ztc),(39,ZcU),(62,Zho)]
theorem ZE7:∀p∈ZrF,EntOK Go.Proofs.Tryz.prog p.1 p.2:=Zg Zy0 (Zg ZkY (Zg ZzC (Zg Zz8 (Zg Zb6 (Zg Zjy (Zt))))))
noncomputable def ZlV:Code:=Go.Proofs.Tryz.f41.body.getD .skip
def ZoI:Tb:=[(11,⟨[2,5,7,9,10,11],[]⟩),(17,⟨[2,5,7,9,10,11,54,55,56],[]⟩),(hintK,⟨[],[(1,72)]⟩)]
inductive ZiU where | l11 (l:List (El Zb)) (back:Int) (open_:List Int) (meet:Int) (meet1:Int) (back1:List (Int×Int)) (meet2:Int) (meet3:List (Int×Int)) (gone:Int) (gone1:List (Int×Int)) | l17 (h:Int) (l:List (El Zb)) (h1:List Int) (back:Int) (open_:List Int) (meet:Int) (meet1:Int) (back1:List (Int×Int)) (meet2:Int) (meet3:List (Int×Int)) (h2:Int) (gone:Int) (gone1:List (Int×Int))
def ZeC (p:El Zc) (a:Int):ZiU→JT ZiU (List Int) |.l11 l back open_ meet meet1 back1 meet2 meet3 gone gone1=>.br (decide ((Int.ofNat (List.length open_)) > (0:Int))) (.br (decide ((0:Int) < (Int.ofNat (List.length open_)))) (.br (Nat.ble 1 (List.length open_)) (.br (Zd7 p l (List.getD open_ 0 (dflt (.int .i64)))) (.jmp (.l17 (Int.ofNat (List.length (Zb2 p l (List.getD open_ 0 (dflt (.int .i64)))))) l (Zb2 p l (List.getD open_ 0 (dflt (.int .i64)))) back (List.drop 1 open_) meet meet1 back1 meet2 meet3 (0:Int) gone gone1)) (.no)) (.no)) (.no)) (.br (Zbj (back,back1)) (.leaf (ZbC (back,back1)).1) (.no)) |.l17 h l h1 back open_ meet meet1 back1 meet2 meet3 h2 gone gone1=>.br (decide (h2 < h)) (.br ((decide ((0:Int)≤h2))&&(decide (h2 < (Int.ofNat (List.length h1))))) (.br (Zo (gone,gone1) (List.getD h1 (Int.toNat h2) (dflt (.int .i64)))).1 (.br (Zf6 (List.getD h1 (Int.toNat h2) (dflt (.int .i64))) l meet (meet2,meet3) open_ meet1 (back,back1)) (.jmp (.l17 h (ZV (List.getD h1 (Int.toNat h2) (dflt (.int .i64))) l meet (meet2,meet3) open_ meet1 (back,back1)).1 h1 (ZV (List.getD h1 (Int.toNat h2) (dflt (.int .i64))) l meet (meet2,meet3) open_ meet1 (back,back1)).2.2.2.2.2.1 (ZV (List.getD h1 (Int.toNat h2) (dflt (.int .i64))) l meet (meet2,meet3) open_ meet1 (back,back1)).2.2.2.1 (ZV (List.getD h1 (Int.toNat h2) (dflt (.int .i64))) l meet (meet2,meet3) open_ meet1 (back,back1)).2.1 (ZV (List.getD h1 (Int.toNat h2) (dflt (.int .i64))) l meet (meet2,meet3) open_ meet1 (back,back1)).2.2.2.2.1 (ZV (List.getD h1 (Int.toNat h2) (dflt (.int .i64))) l meet (meet2,meet3) open_ meet1 (back,back1)).2.2.2.2.2.2 (ZV (List.getD h1 (Int.toNat h2) (dflt (.int .i64))) l meet (meet2,meet3) open_ meet1 (back,back1)).2.2.1.1 (ZV (List.getD h1 (Int.toNat h2) (dflt (.int .i64))) l meet (meet2,meet3) open_ meet1 (back,back1)).2.2.1.2 (IntKind.i64.wrap (h2+(1:Int))) (Zo (gone,gone1) (List.getD h1 (Int.toNat h2) (dflt (.int .i64)))).2.1 (Zo (gone,gone1) (List.getD h1 (Int.toNat h2) (dflt (.int .i64)))).2.2)) (.no)) (.jmp (.l17 h l h1 back open_ meet meet1 back1 meet2 meet3 (IntKind.i64.wrap (h2+(1:Int))) (Zo (gone,gone1) (List.getD h1 (Int.toNat h2) (dflt (.int .i64)))).2.1 (Zo (gone,gone1) (List.getD h1 (Int.toNat h2) (dflt (.int .i64)))).2.2))) (.no)) (.jmp (.l11 l back open_ meet meet1 back1 meet2 meet3 gone gone1))
def Zo9 (p:El Zc) (a:Int):JT ZiU (List Int):=.br (ZnT p) (.br (decide (a < (0:Int))) (.leaf []) (.br (decide (a≥(Int.ofNat (List.length (ZD p))))) (.leaf []) (.br ((decide ((0:Int)≤a))&&(decide (a < (Int.ofNat (List.length (ZD p)))))) (.br (Zf6 a (ZD p) (List.getD (ZD p) (Int.toNat a) (dflt Zb)).1 (Zz (Int.ofNat (List.length (ZD p)))) [] a (Zz (Int.ofNat (List.length (ZD p))))) (.jmp (.l11 (ZV a (ZD p) (List.getD (ZD p) (Int.toNat a) (dflt Zb)).1 (Zz (Int.ofNat (List.length (ZD p)))) [] a (Zz (Int.ofNat (List.length (ZD p))))).1 (ZV a (ZD p) (List.getD (ZD p) (Int.toNat a) (dflt Zb)).1 (Zz (Int.ofNat (List.length (ZD p)))) [] a (Zz (Int.ofNat (List.length (ZD p))))).2.2.2.2.2.1 (ZV a (ZD p) (List.getD (ZD p) (Int.toNat a) (dflt Zb)).1 (Zz (Int.ofNat (List.length (ZD p)))) [] a (Zz (Int.ofNat (List.length (ZD p))))).2.2.2.1 (ZV a (ZD p) (List.getD (ZD p) (Int.toNat a) (dflt Zb)).1 (Zz (Int.ofNat (List.length (ZD p)))) [] a (Zz (Int.ofNat (List.length (ZD p))))).2.1 (ZV a (ZD p) (List.getD (ZD p) (Int.toNat a) (dflt Zb)).1 (Zz (Int.ofNat (List.length (ZD p)))) [] a (Zz (Int.ofNat (List.length (ZD p))))).2.2.2.2.1 (ZV a (ZD p) (List.getD (ZD p) (Int.toNat a) (dflt Zb)).1 (Zz (Int.ofNat (List.length (ZD p)))) [] a (Zz (Int.ofNat (List.length (ZD p))))).2.2.2.2.2.2 (ZV a (ZD p) (List.getD (ZD p) (Int.toNat a) (dflt Zb)).1 (Zz (Int.ofNat (List.length (ZD p)))) [] a (Zz (Int.ofNat (List.length (ZD p))))).2.2.1.1 (ZV a (ZD p) (List.getD (ZD p) (Int.toNat a) (dflt Zb)).1 (Zz (Int.ofNat (List.length (ZD p)))) [] a (Zz (Int.ofNat (List.length (ZD p))))).2.2.1.2 (Zz (Int.ofNat (List.length (ZD p)))).1 (Zz (Int.ofNat (List.length (ZD p)))).2)) (.no)) (.no)))) (.no)
def Zmk:List Int→AV:=fun (r:List Int)=>.rw 3 (.int .i64) r
def ZeD (p:El Zc) (a:Int):ZiU→Nat×St |.l11 l back open_ meet meet1 back1 meet2 meet3 gone gone1=>(11,⟨mkTm 69 [(2,.pt 3 0 0),(5,.pt 6 0 0),(7,.pt 8 0 0),(9,.pt 10 0 0),(10,.pt 11 0 0),(11,.fn 64 [.pt 6 0 0,.pt 12290 0 0,.pt 12291 0 0,.pt 11 0 0,.pt 12293 0 0,.pt 8 0 0])],[(3,0,.box 26 [.d (.sl Zx) p.1,.d (.sl (.sl Za)) p.2] none),(6,0,.box 67 [.d (.sl Zb) l] none),(8,0,.box 80 [.pt 8193 0 0] none),(10,0,.box 98 [.d (.int .i64) gone,.mp 10242 0] none),(11,0,.box 36 [.own 11265 0 none] none),(8193,0,.box 98 [.d (.int .i64) back,.mp 8389634 0] none),(10242,0,.map (.int .i64) (.int .u64) gone1),(11265,0,.row 3 (.int .i64) open_ false),(12290,0,.box 3 [.d (.int .i64) meet] none),(12291,0,.box 80 [.pt 12585985 0 0] none),(12293,0,.box 3 [.d (.int .i64) meet1] none),(8389634,0,.map (.int .i64) (.int .u64) back1),(12585985,0,.box 98 [.d (.int .i64) meet2,.mp 12888048642 0] none),(12888048642,0,.map (.int .i64) (.int .u64) meet3)]⟩) |.l17 h l h1 back open_ meet meet1 back1 meet2 meet3 h2 gone gone1=>(17,⟨mkTm 69 [(2,.pt 3 0 0),(5,.pt 6 0 0),(7,.pt 8 0 0),(9,.pt 10 0 0),(10,.pt 11 0 0),(11,.fn 64 [.pt 6 0 0,.pt 12290 0 0,.pt 12291 0 0,.pt 11 0 0,.pt 12293 0 0,.pt 8 0 0]),(54,.own 55 0 none),(55,.d (.int .i64) h),(56,.d (.int .i64) h2)],[(3,0,.box 26 [.d (.sl Zx) p.1,.d (.sl (.sl Za)) p.2] none),(6,0,.box 67 [.d (.sl Zb) l] none),(8,0,.box 80 [.pt 8193 0 0] none),(10,0,.box 98 [.d (.int .i64) gone,.mp 10242 0] none),(11,0,.box 36 [.own 11265 0 none] none),(55,0,.row 3 (.int .i64) h1 false),(8193,0,.box 98 [.d (.int .i64) back,.mp 8389634 0] none),(10242,0,.map (.int .i64) (.int .u64) gone1),(11265,0,.row 3 (.int .i64) open_ false),(12290,0,.box 3 [.d (.int .i64) meet] none),(12291,0,.box 80 [.pt 12585985 0 0] none),(12293,0,.box 3 [.d (.int .i64) meet1] none),(8389634,0,.map (.int .i64) (.int .u64) back1),(12585985,0,.box 98 [.d (.int .i64) meet2,.mp 12888048642 0] none),(12888048642,0,.map (.int .i64) (.int .u64) meet3)]⟩)
theorem ZER (p:El Zc) (a:Int) (L:Lt):entryA Go.Proofs.Tryz.prog (clOf ZrF) ZoI Go.Proofs.Tryz.f41 ZlV L (toForms ZfA (p,a,()))=(Zo9 p a).run (fun v=>some (Zmk v,tps (toForms ZfA (p,a,())))) fun j=>L (ZeD p a j).1 (ZeD p a j).2:=by kernel_rfl
theorem ZD9 (p:El Zc) (a:Int):∀(L:Lt) (j:ZiU),procOf (procsF Go.Proofs.Tryz.prog (clOf ZrF) ZoI Go.Proofs.Tryz.f41 ZlV (toForms ZfA (p,a,()))) (ZeD p a j).1 L (ZeD p a j).2=(ZeC p a j).run (fun v=>some (Zmk v,tps (toForms ZfA (p,a,())))) fun j=>L (ZeD p a j).1 (ZeD p a j).2 | L,.l11 l back open_ meet meet1 back1 meet2 meet3 gone gone1=>by kernel_rfl | L,.l17 h l h1 back open_ meet meet1 back1 meet2 meet3 h2 gone gone1=>by kernel_rfl
end
end Go.Ev
end

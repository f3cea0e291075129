/- Part of the proof of: In the programs that the book makes, with each instruction that writes locked, there is no delay; nor is there one where one of two threads alone touches memory: for every input the law answers true. -/
import Derived.Shelf.Slices.In.SortNone
import Derived.Shelf.Sort.Plain
import Derived.Test.YtmkfbpefdlpipaaGreatDoorCon0
set_option maxRecDepth 100000
set_option linter.unusedSectionVars false
set_option linter.unusedVariables false
set_option linter.unusedSimpArgs false
section
open Go
namespace Go.Ev
theorem Zwg {n:Nat} (h:n < 2 ^ 64):IntKind.u64.wrap (n:Int)=(n:Int):=by
 unfold IntKind.wrap
 simp only[IntKind.signed,IntKind.bits,Bool.false_and,Bool.false_eq_true,if_false]
 exact Int.emod_eq_of_lt (by omega) (by exact_mod_cast h)
theorem ofIntU {n:Nat} :BitVec.ofInt 64 (n:Int)=BitVec.ofNat 64 n:=BitVec.ofInt_natCast 64 n
theorem ZDi {a b:Nat} (ha:a < 2 ^ 64) (hb:b < 2 ^ 64):bitAnd IntKind.u64 (a:Int) (b:Int)=((a &&& b:Nat):Int):=by
 unfold bitAnd
 show IntKind.u64.wrap (((BitVec.ofInt 64 (a:Int) &&& BitVec.ofInt 64 (b:Int)).toNat:Nat):Int)=_
 rw[ofIntU,ofIntU,BitVec.toNat_and,BitVec.toNat_ofNat,BitVec.toNat_ofNat,Nat.mod_eq_of_lt ha,Nat.mod_eq_of_lt hb]
 exact Zwg (Nat.lt_of_le_of_lt Nat.and_le_left ha)
theorem ZD9 {a b:Nat} (ha:a < 2 ^ 64) (hb:b < 2 ^ 64):bitOr IntKind.u64 (a:Int) (b:Int)=((a ||| b:Nat):Int):=by
 unfold bitOr
 show IntKind.u64.wrap (((BitVec.ofInt 64 (a:Int) ||| BitVec.ofInt 64 (b:Int)).toNat:Nat):Int)=_
 rw[ofIntU,ofIntU,BitVec.toNat_or,BitVec.toNat_ofNat,BitVec.toNat_ofNat,Nat.mod_eq_of_lt ha,Nat.mod_eq_of_lt hb]
 exact Zwg (Nat.or_lt_two_pow ha hb)
theorem ZsR (j:Nat):(2:Int) ^ j=((2 ^ j:Nat):Int):=by simp
theorem ZCt {w j:Nat} (hw:w < 2 ^ 64) (hj:j < 64):bitE (w:Int) (j:Int)=w.testBit j:=by
 unfold bitE
 rw[Zn0 hj,Int.toNat_natCast,show min j (IntKind.u64).bits=j from Nat.min_eq_left (by show j≤64;omega),ZsR,Int.fdiv_eq_ediv_of_nonneg _ (Int.natCast_nonneg _),←Int.natCast_ediv]
 rw[show (1:Int)=((1:Nat):Int) from rfl,ZDi (Nat.lt_of_le_of_lt (Nat.div_le_self _ _) hw) (by decide),Nat.and_one_is_mod,Nat.testBit_eq_decide_div_mod_eq]
 by_cases h:w / 2 ^ j % 2=1
 ·rw[h];simp
 ·have:w / 2 ^ j % 2=0:=by omega
  rw[this];simp
theorem ZB1 {w j:Nat} (hw:w < 2 ^ 64) (hj:j < 64):withBit (w:Int) (j:Int)=((w ||| 2 ^ j:Nat):Int):=by
 unfold withBit
 have hp:2 ^ j < 2 ^ 64:=Nat.pow_lt_pow_right (by decide) hj
 rw[Zn0 hj,Int.toNat_natCast,show min j (IntKind.u64).bits=j from Nat.min_eq_left (by show j≤64;omega),ZsR,Int.one_mul,Zwg hp,ZD9 hw hp]
theorem ZnF (k v:Int):∀m:List (Int×Int),mget (kt:=.int .i64) k (mput (kt:=.int .i64) k v m)=some v
 | []=>by simp[mput,mget,keyEq]
 | (x,u) :: r=>by
  by_cases h:k=x
  ·subst h;simp[mput,mget,keyEq]
  ·have hb:keyEq (.int .i64) k x=false:=by show (k==x)=false;simpa using h
   simp only[mput,hb,cond_false,mget]
   exact ZnF k v r
theorem Zl0 {k k':Int} (v:Int) (h:k'≠k):∀m:List (Int×Int),mget (kt:=.int .i64) k' (mput (kt:=.int .i64) k v m)=mget (kt:=.int .i64) k' m
 | []=>by
  have hb:keyEq (.int .i64) k' k=false:=by show (k'==k)=false;simpa using h
  simp[mput,mget,hb]
 | (x,u) :: r=>by
  by_cases hx:k=x
  ·subst hx
   have hb:keyEq (.int .i64) k' k=false:=by show (k'==k)=false;simpa using h
   have hb2:keyEq (.int .i64) k k=true:=by show (k==k)=true;simp
   simp only[mput,hb2,cond_true,mget,hb,cond_false]
  ·have hb:keyEq (.int .i64) k x=false:=by show (k==x)=false;simpa using hx
   simp only[mput,hb,cond_false,mget,Zl0 v h r]
theorem Zlv {k v:Int} :∀ {m:List (Int×Int)},mget (kt:=.int .i64) k m=some v→(k,v)∈m
 | [],h=>by cases h
 | (x,u) :: r,h=>by
  by_cases hx:k=x
  ·subst hx
   have hb2:keyEq (.int .i64) k k=true:=by show (k==k)=true;simp
   simp only[mget,hb2,cond_true,Option.some.injEq] at h
   subst h
   simp
  ·have hb:keyEq (.int .i64) k x=false:=by show (k==x)=false;simpa using hx
   simp only[mget,hb,cond_false] at h
   exact List.mem_cons_of_mem _ (Zlv h)
theorem ZBf {k v:Int} {p:Int×Int} :∀ {m:List (Int×Int)},p∈mput (kt:=.int .i64) k v m→p=(k,v)∨p∈m
 | [],h=>by simp[mput] at h;exact .inl h
 | (x,u) :: r,h=>by
  by_cases hx:k=x
  ·subst hx
   have hb2:keyEq (.int .i64) k k=true:=by show (k==k)=true;simp
   simp only[mput,hb2,cond_true] at h
   rcases List.mem_cons.1 h with h | h
   ·exact .inl h
   ·exact .inr (List.mem_cons_of_mem _ h)
  ·have hb:keyEq (.int .i64) k x=false:=by show (k==x)=false;simpa using hx
   simp only[mput,hb,cond_false] at h
   rcases List.mem_cons.1 h with h | h
   ·exact .inr (by rw[h];simp)
   ·exact (ZBf h).imp id (List.mem_cons_of_mem _)
theorem ZoU {k v:Int} :∀ {m:List (Int×Int)},(mput (kt:=.int .i64) k v m).map Prod.fst=if k∈m.map Prod.fst then m.map Prod.fst else m.map Prod.fst++[k]
 | []=>by simp[mput]
 | (x,u) :: r=>by
  by_cases hx:k=x
  ·subst hx
   have hb2:keyEq (.int .i64) k k=true:=by show (k==k)=true;simp
   simp only[mput,hb2,cond_true]
   simp
  ·have hb:keyEq (.int .i64) k x=false:=by show (k==x)=false;simpa using hx
   simp only[mput,hb,cond_false,List.map_cons,List.mem_cons,hx,false_or]
   rw[@ZoU k v r]
   by_cases h:k∈r.map Prod.fst
   ·rw[if_pos h,if_pos h]
   ·rw[if_neg h,if_neg h];rfl
theorem Zto {k v:Int} {m:List (Int×Int)} (h:(m.map Prod.fst).Nodup):((mput (kt:=.int .i64) k v m).map Prod.fst).Nodup:=by
 rw[ZoU]
 split
 ·exact h
 ·rename_i hk
  rw[List.nodup_append]
  exact ⟨h,by simp,fun a ha b hb e=>by simp at hb;subst hb;subst e;exact hk ha⟩
theorem ZuD:∀ {l:List Int} {a b:Int},l.Pairwise (· < ·)→(∀x∈l,a≤x∧x < b)→a≤b→(l.length:Int)≤b - a
 | [],a,b,_,_,h=>by simp;omega
 | y :: l,a,b,hp,hb,h=>by
  rw[List.pairwise_cons] at hp
  have hy:=hb y (by simp)
  have:=ZuD (l:=l) (a:=y+1) (b:=b) hp.2 (fun x hx=>⟨hp.1 x hx,(hb x (List.mem_cons_of_mem _ hx)).2⟩) (by omega)
  simp
  omega
structure SetOK (s:Int×List (Int×Int)) (n:Nat) (M:Nat→Bool):Prop where
 size:s.1=n
 nodup:(s.2.map Prod.fst).Nodup
 words:∀p∈s.2,∃k w:Nat,p=((k:Int),(w:Int))∧k*64 < n∧w < 2 ^ 64
 bits:∀k j:Nat,j < 64→(wordAt s.2 (k:Int)).toNat.testBit j=M (k*64+j)
 lt:∀i,M i=true→i < n
theorem SetOK.new (n:Nat):SetOK ((n:Int),[]) n fun _=>false:=⟨rfl,List.nodup_nil,fun p hp=>by simp at hp,fun k j _=>by simp[wordAt,mget],fun i h=>by cases h⟩
variable {s:Int×List (Int×Int)} {n:Nat} {M:Nat→Bool}
theorem SetOK.word (h:SetOK s n M) (k:Nat):∃w:Nat,wordAt s.2 (k:Int)=(w:Int)∧w < 2 ^ 64:=by
 unfold wordAt
 cases hg:mget (kt:=.int .i64) (k:Int) s.2 with
 | none=>exact ⟨0,rfl,by decide⟩
 | some v=>
  obtain ⟨k',w,e,_,hw⟩:=h.words _ (Zlv hg)
  simp only[Prod.mk.injEq] at e
  exact ⟨w,e.2,hw⟩
theorem Zsi {i:Nat} (hi:i < 4611686018427387904):placeOf (i:Int)=((i / 64:Nat):Int):=by
 unfold placeOf
 rw[show Int.tdiv (i:Int) 64=((i / 64:Nat):Int) from rfl,wrap_i64 (by omega) (by omega)]
theorem SetOK.has (h:SetOK s n M) (hn:n < 4611686018427387904) (i:Int):hasS s i=(decide (0≤i)&&M i.toNat):=by
 unfold hasS
 rw[h.size]
 by_cases h0:0≤i
 ·obtain ⟨j,rfl⟩:=Int.eq_ofNat_of_zero_le h0
  by_cases h1:j < n
  ·rw[decide_eq_true (show (j:Int)≥0 from h0),decide_eq_true (show (j:Int) < (n:Int) by omega),Bool.true_and,Bool.true_and,Bool.true_and,Zsi (by omega)]
   obtain ⟨w,hw,hlt⟩:=h.word (j / 64)
   have hb:=h.bits (j / 64) (j % 64) (Nat.mod_lt _ (by decide))
   rw[hw,show Int.tmod (j:Int) 64=((j % 64:Nat):Int) from rfl,ZCt hlt (Nat.mod_lt _ (by decide))]
   rw[hw,Int.toNat_natCast] at hb
   rw[hb,Int.toNat_natCast,Nat.div_add_mod' j 64]
  ·rw[decide_eq_false (show ¬(j:Int) < (n:Int) by omega),Bool.false_and,Bool.and_false]
   have:M (j:Int).toNat=false:=by
    rw[Int.toNat_natCast]
    cases hm:M j with
    | true=>exact absurd (h.lt j hm) h1
    | false=>rfl
   rw[this,Bool.and_false]
 ·rw[decide_eq_false (show ¬i≥0 from h0),Bool.false_and,Bool.false_and]
theorem SetOK.put (h:SetOK s n M) (hn:n < 4611686018427387904) {i:Nat} (hi:i < n) (hM:M i=false):
  (putS s i).1=true∧SetOK (putS s i).2 n fun j=>M j || (j==i):=by
 have hno:¬((i:Int) < 0∨s.1≤(i:Int)∨hasS s (i:Int)=true):=by
  rw[h.has hn,h.size,Int.toNat_natCast,hM]
  simp
  omega
 unfold putS
 rw[if_neg hno,Zsi (by omega),show Int.tmod (i:Int) 64=((i % 64:Nat):Int) from rfl]
 refine ⟨rfl,?_⟩
 obtain ⟨w,hw,hlt⟩:=h.word (i / 64)
 have hj:i % 64 < 64:=Nat.mod_lt _ (by decide)
 have hp:2 ^ (i % 64) < 2 ^ 64:=Nat.pow_lt_pow_right (by decide) hj
 rw[hw,ZB1 hlt hj]
 have hw2:w ||| 2 ^ (i % 64) < 2 ^ 64:=Nat.or_lt_two_pow hlt hp
 refine ⟨h.size,Zto h.nodup,fun p hp=>?_,fun k j hj2=>?_,fun k hk=>?_⟩
 ·rcases ZBf hp with rfl | hp
  ·exact ⟨i / 64,_,rfl,by omega,hw2⟩
  ·exact h.words p hp
 ·unfold wordAt
  by_cases hk:k=i / 64
  ·subst hk
   simp only
   rw[ZnF,Option.getD_some,Int.toNat_natCast,Nat.testBit_or,Nat.testBit_two_pow]
   have hb:=h.bits (i / 64) j hj2
   rw[hw,Int.toNat_natCast] at hb
   rw[hb]
   congr 1
   rw[Bool.eq_iff_iff]
   simp
   omega
  ·simp only
   rw[Zl0 _ (by omega)]
   have hb:=h.bits k j hj2
   unfold wordAt at hb
   rw[hb]
   have:(k*64+j==i)=false:=by simp;omega
   rw[this,Bool.or_false]
 ·simp only[Bool.or_eq_true,beq_iff_eq] at hk
  rcases hk with hk | hk
  ·exact h.lt k hk
  ·omega
theorem SetOK.put_no (h:SetOK s n M) (hn:n < 4611686018427387904) {i:Int} (hi:¬(0≤i∧i < n∧M i.toNat=false)):putS s i=(false,s):=by
 unfold putS
 rw[if_pos]
 rw[h.has hn,h.size]
 by_cases h0:i < 0
 ·exact .inl h0
 ·by_cases h1:(n:Int)≤i
  ·exact .inr (.inl h1)
  ·refine .inr (.inr ?_)
   have:¬M i.toNat=false:=fun hf=>hi ⟨by omega,by omega,hf⟩
   rw[Bool.not_eq_false] at this
   rw[this,decide_eq_true (by omega)];rfl
theorem Zp5:∀ {l m:List Int},l.Pairwise (· < ·)→m.Pairwise (· < ·)→(∀x,x∈l↔x∈m)→l=m
 | [],[],_,_,_=>rfl
 | [],b :: m,_,_,h=>by have:=(h b).2 (by simp);simp at this
 | a :: l,[],_,_,h=>by have:=(h a).1 (by simp);simp at this
 | a :: l,b :: m,hl,hm,h=>by
  rw[List.pairwise_cons] at hl hm
  have hab:a=b:=by
   have h1:=(h a).1 (by simp)
   have h2:=(h b).2 (by simp)
   rcases List.mem_cons.1 h1 with h1 | h1
   ·exact h1
   ·rcases List.mem_cons.1 h2 with h2 | h2
    ·exact h2.symm
    ·have:=hm.1 a h1;have:=hl.1 b h2;omega
  subst hab
  rw[Zp5 hl.2 hm.2 fun x=>⟨fun hx=>?_,fun hx=>?_⟩]
  ·have:=hl.1 x hx
   rcases List.mem_cons.1 ((h x).1 (List.mem_cons_of_mem _ hx)) with e | e
   ·omega
   ·exact e
  ·have:=hm.1 x hx
   rcases List.mem_cons.1 ((h x).2 (List.mem_cons_of_mem _ hx)) with e | e
   ·omega
   ·exact e
def listOf (n:Nat) (M:Nat→Bool):List Int:=((List.range n).filter M).map Int.ofNat
theorem Zbq {x:Int} :x∈listOf n M↔∃i:Nat,i < n∧M i=true∧x=(i:Int):=by
 unfold listOf
 simp only[List.mem_map,List.mem_filter,List.mem_range]
 constructor
 ·rintro ⟨i,⟨h1,h2⟩,rfl⟩;exact ⟨i,h1,h2,rfl⟩
 ·rintro ⟨i,h1,h2,rfl⟩;exact ⟨i,⟨h1,h2⟩,rfl⟩
theorem Zpk:(listOf n M).Pairwise (· < ·):=by
 unfold listOf
 rw[List.pairwise_map]
 refine (List.Pairwise.filter M List.pairwise_lt_range).imp fun {a b} h=>?_
 show (a:Int) < (b:Int)
 omega
theorem ZlP {M':Nat→Bool} (h:∀i,i < n→M i=M' i):listOf n M=listOf n M':=by
 unfold listOf
 congr 1
 exact List.filter_congr fun i hi=>h i (List.mem_range.1 hi)
theorem SetOK.list (h:SetOK s n M) (hn:n < 4611686018427387904):listS s=listOf n M:=by
 have hkey:∀k∈s.2.map Prod.fst,∃k':Nat,k=(k':Int)∧k'*64 < n:=fun k hk=>by
  obtain ⟨p,hp,rfl⟩:=List.mem_map.1 hk
  obtain ⟨k',w,e,h1,_⟩:=h.words p hp
  exact ⟨k',by rw[e],h1⟩
 have hwl:∀k:Nat,k*64 < n→∀x,x∈wordList s.2 (k:Int) 0 64↔∃j:Nat,j < 64∧M (k*64+j)=true∧x=((k*64+j:Nat):Int):=fun k hk x=>by
  obtain ⟨w,hw,hlt⟩:=h.word k
  unfold wordList
  rw[hw]
  simp only[List.mem_map,List.mem_filter,List.mem_range'_1]
  have hnum:∀j:Nat,j < 64→numE (k:Int) (j:Int)=((k*64+j:Nat):Int):=fun j hj=>by
   unfold numE
   rw[wrap_i64 (n:=(k:Int)*64) (by omega) (by omega),wrap_i64 (by omega) (by omega)]
   omega
  have hbit:∀j:Nat,j < 64→bitE (w:Int) (j:Int)=M (k*64+j):=fun j hj=>by
   rw[ZCt hlt hj]
   have:=h.bits k j hj
   rwa[hw,Int.toNat_natCast] at this
  constructor
  ·rintro ⟨j,⟨hj,hb⟩,rfl⟩
   exact ⟨j,by omega,by rw[←hbit j (by omega)];exact hb,hnum j (by omega)⟩
  ·rintro ⟨j,hj,hb,rfl⟩
   exact ⟨j,⟨by omega,by rw[hbit j hj];exact hb⟩,hnum j hj⟩
 have hmem:∀ {k:Int},k∈(s.2.map Prod.fst).mergeSort (fun x y=>decide (x≤y))↔k∈s.2.map Prod.fst:=List.mem_mergeSort
 have tr:∀a b c:Int,decide (a≤b)=true→decide (b≤c)=true→decide (a≤c)=true:=fun a b c h1 h2=>by simp at*;omega
 have to:∀a b:Int,(decide (a≤b) || decide (b≤a))=true:=fun a b=>by simp;omega
 have hs1:=List.pairwise_mergeSort tr to (s.2.map Prod.fst)
 have hs2:((s.2.map Prod.fst).mergeSort (fun x y=>decide (x≤y))).Nodup:=(List.mergeSort_perm _ _).nodup_iff.2 h.nodup
 have hst:((s.2.map Prod.fst).mergeSort (fun x y=>decide (x≤y))).Pairwise (· < ·):=(hs1.and hs2).imp fun {a b} h=>by
  have h1:=h.1;have h2:=h.2;simp at h1;omega
 refine Zp5 ?_ Zpk fun x=>?_
 ·unfold listS listAt
  rw[List.pairwise_flatMap]
  refine ⟨fun k hk=>?_,?_⟩
  ·obtain ⟨k',rfl,hk'⟩:=hkey k (hmem.1 hk)
   unfold wordList
   rw[List.pairwise_map]
   have hp:((List.range' 0 64).filter fun i=>bitE (wordAt s.2 (k':Int)) (i:Nat)).Pairwise (· < ·):=List.Pairwise.filter _ (List.pairwise_lt_range' (step:=1) (s:=0) (n:=64) (by omega))
   refine (List.Pairwise.and_mem.1 hp).imp fun {a b} h=>?_
   obtain ⟨ha,hb,hab⟩:=h
   have ha':=(List.mem_range'_1.1 (List.mem_filter.1 ha).1)
   have hb':=(List.mem_range'_1.1 (List.mem_filter.1 hb).1)
   unfold numE
   rw[wrap_i64 (n:=(k':Int)*64) (by omega) (by omega),wrap_i64 (by omega) (by omega),wrap_i64 (by omega) (by omega)]
   omega
  ·refine (List.Pairwise.and_mem.1 hst).imp fun {a b} hab=>?_
   obtain ⟨ha,hb,hlt⟩:=hab
   obtain ⟨a',rfl,ha'⟩:=hkey a (hmem.1 ha)
   obtain ⟨b',rfl,hb'⟩:=hkey b (hmem.1 hb)
   intro x hx y hy
   obtain ⟨j,hj,_,rfl⟩:=(hwl a' ha' x).1 hx
   obtain ⟨j',hj',_,rfl⟩:=(hwl b' hb' y).1 hy
   omega
 ·unfold listS listAt
  rw[Zbq,List.mem_flatMap]
  constructor
  ·rintro ⟨k,hk,hx⟩
   obtain ⟨k',rfl,hk'⟩:=hkey k (hmem.1 hk)
   obtain ⟨j,hj,hM,rfl⟩:=(hwl k' hk' x).1 hx
   exact ⟨_,h.lt _ hM,hM,rfl⟩
  ·rintro ⟨i,hi,hM,rfl⟩
   have hb:=h.bits (i / 64) (i % 64) (Nat.mod_lt _ (by decide))
   rw[Nat.div_add_mod' i 64,hM] at hb
   refine ⟨((i / 64:Nat):Int),hmem.2 ?_,(hwl (i / 64) (by omega) _).2 ⟨i % 64,Nat.mod_lt _ (by decide),by rw[Nat.div_add_mod' i 64];exact hM,by rw[Nat.div_add_mod' i 64]⟩⟩
   unfold wordAt at hb
   cases hg:mget (kt:=.int .i64) ((i / 64:Nat):Int) s.2 with
   | none=>rw[hg] at hb;simp at hb
   | some v=>exact List.mem_map.2 ⟨_,Zlv hg,rfl⟩
theorem SetOK.few (h:SetOK s n M):s.2.length≤(n+63) / 64:=by
 have tr:∀a b c:Int,decide (a≤b)=true→decide (b≤c)=true→decide (a≤c)=true:=fun a b c h1 h2=>by simp at*;omega
 have to:∀a b:Int,(decide (a≤b) || decide (b≤a))=true:=fun a b=>by simp;omega
 have hs1:=List.pairwise_mergeSort tr to (s.2.map Prod.fst)
 have hs2:((s.2.map Prod.fst).mergeSort (fun x y=>decide (x≤y))).Nodup:=(List.mergeSort_perm _ _).nodup_iff.2 h.nodup
 have hst:((s.2.map Prod.fst).mergeSort (fun x y=>decide (x≤y))).Pairwise (· < ·):=(hs1.and hs2).imp fun {a b} h=>by
  have h1:=h.1;have h2:=h.2;simp at h1;omega
 have:=ZuD (a:=0) (b:=(((n+63) / 64:Nat):Int)) hst (fun x hx=>by
  obtain ⟨p,hp,rfl⟩:=List.mem_map.1 (List.mem_mergeSort.1 hx)
  obtain ⟨k',w,e,h1,_⟩:=h.words p hp
  rw[e]
  exact ⟨by simp,by simp;omega⟩) (by omega)
 simp at this
 omega
end Go.Ev
end

section
open Go
namespace Go.Ev
def flowOK (t:List (El Za)):Bool:=decide (t.length < 1099511627776)&&t.all fun i=>smallText i.2.2.2.2.2.1&&decide (i.2.2.2.2.2.2.length < 1099511627776)
theorem ZeF {t:List (El Za)} (h:flowOK t=true):t.length < 1099511627776:=by
 unfold flowOK at h;rw[Bool.and_eq_true] at h;exact of_decide_eq_true h.1
theorem Zry {t:List (El Za)} (h:flowOK t=true) {i:El Za} (hi:i∈t):smallText i.2.2.2.2.2.1=true:=by
 unfold flowOK at h
 rw[Bool.and_eq_true] at h
 have:=List.all_eq_true.1 h.2 i hi
 rw[Bool.and_eq_true] at this
 exact this.1
theorem ZAn {t:List (El Za)} (h:flowOK t=true):(decide (t.length < 1099511627776)&&t.all fun i=>decide (i.2.2.2.2.2.2.length < 1099511627776))=true:=by
 unfold flowOK at h
 rw[Bool.and_eq_true] at h ⊢
 refine ⟨h.1,List.all_eq_true.2 fun i hi=>?_⟩
 have:=List.all_eq_true.1 h.2 i hi
 rw[Bool.and_eq_true] at this
 exact this.2
theorem ZBq {label:ByteArray} :∀ {t:List (El Za)} {k:Nat},findI label t k < ((k+t.length:Nat):Int)∨findI label t k= -1
 | [],k=>.inr rfl
 | x :: r,k=>by
  unfold findI
  split
  ·left;simp;omega
  ·rcases @ZBq label r (k+1) with h | h
   ·left;simp only[List.length_cons];omega
   ·exact .inr h
theorem ZBk {label:ByteArray} :∀ {t:List (El Za)} {k:Nat},findI label t k= -1∨(k:Int)≤findI label t k
 | [],k=>.inl rfl
 | x :: r,k=>by
  unfold findI
  split
  ·right;omega
  ·rcases @ZBk label r (k+1) with h | h
   ·exact .inl h
   ·right;omega
def onOf (t:List (El Za)) (i:Nat):Bool:=(ZaR (t.getD i (dflt Za))).1
def toOf (t:List (El Za)) (i:Nat):Int:=if (ZaR (t.getD i (dflt Za))).2 then findI (t.getD i (dflt Za)).2.2.2.2.2.1 t 0 else -1
theorem ZCq {t:List (El Za)} {i:Nat} : -1≤toOf t i∧(toOf t i < (t.length:Int)):=by
 unfold toOf
 split
 ·have h1:= @ZBq (t.getD i (dflt Za)).2.2.2.2.2.1 t 0
  have h2:= @ZBk (t.getD i (dflt Za)).2.2.2.2.2.1 t 0
  rw[Nat.zero_add] at h1
  omega
 ·omega
def nextB (t:List (El Za)) (i:Int) (j:Nat):Bool:=
 decide (0≤i∧i < (t.length:Int)∧j < t.length)&&((onOf t i.toNat&&decide ((j:Int)=i+1)) || decide (toOf t i.toNat=(j:Int)))
theorem Zfe {t:List (El Za)} {i:Int} {j:Nat} (h:nextB t i j=true):j < t.length:=by
 unfold nextB at h
 rw[Bool.and_eq_true] at h
 exact (of_decide_eq_true h.1).2.2
def nextL (n:Nat) (on:Bool) (to i:Int):List Int:=
 (if 0≤to∧to≤i then [to] else [])++((if on=true∧i+1 < (n:Int) then [i+1] else [])++(if to > i∧¬(on=true∧i+1 < (n:Int)∧to=i+1) then [to] else []))
theorem Zyg {n:Nat} {on:Bool} {to i:Int} :(nextL n on to i).Pairwise (· < ·):=by
 unfold nextL
 by_cases h1:0≤to∧to≤i
 ·rw[if_pos h1,if_neg (c:=to > i∧_) (fun h=>by omega)]
  by_cases h2:on=true∧i+1 < (n:Int)
  ·rw[if_pos h2];simp;omega
  ·rw[if_neg h2];simp
 ·rw[if_neg h1]
  by_cases h2:on=true∧i+1 < (n:Int)
  ·rw[if_pos h2]
   by_cases h3:to > i∧¬(on=true∧i+1 < (n:Int)∧to=i+1)
   ·rw[if_pos h3]
    have:to≠i+1:=fun e=>h3.2 ⟨h2.1,h2.2,e⟩
    simp;omega
   ·rw[if_neg h3];simp
  ·rw[if_neg h2]
   by_cases h3:to > i∧¬(on=true∧i+1 < (n:Int)∧to=i+1)
   ·rw[if_pos h3];simp
   ·rw[if_neg h3];simp
theorem ZBr {t:List (El Za)} {i:Nat} (hi:i < t.length):nextL t.length (onOf t i) (toOf t i) (i:Int)=listOf t.length (nextB t (i:Int)):=by
 refine Zp5 Zyg Zpk fun x=>?_
 rw[Zbq]
 have hb:∀j:Nat,nextB t (i:Int) j=true↔j < t.length∧((onOf t i=true∧(j:Int)=(i:Int)+1)∨toOf t i=(j:Int)):=fun j=>by
  unfold nextB
  rw[Int.toNat_natCast]
  simp only[Bool.and_eq_true,Bool.or_eq_true,decide_eq_true_eq]
  constructor
  ·rintro ⟨⟨_,_,h⟩,h2⟩;exact ⟨h,h2⟩
  ·rintro ⟨h,h2⟩;exact ⟨⟨by omega,by omega,h⟩,h2⟩
 have ht:= @ZCq t i
 unfold nextL
 constructor
 ·intro h
  simp only[List.mem_append] at h
  rcases h with h | h | h
  ·split at h
   ·rename_i hc
    simp at h
    subst h
    exact ⟨(toOf t i).toNat,by omega,(hb _).2 ⟨by omega,.inr (by omega)⟩,by omega⟩
   ·simp at h
  ·split at h
   ·rename_i hc
    simp at h
    subst h
    exact ⟨i+1,by omega,(hb _).2 ⟨by omega,.inl ⟨hc.1,by omega⟩⟩,by omega⟩
   ·simp at h
  ·split at h
   ·rename_i hc
    simp at h
    subst h
    exact ⟨(toOf t i).toNat,by omega,(hb _).2 ⟨by omega,.inr (by omega)⟩,by omega⟩
   ·simp at h
 ·rintro ⟨j,hj,hM,rfl⟩
  obtain ⟨_,h⟩:=(hb j).1 hM
  simp only[List.mem_append]
  rcases h with ⟨h1,h2⟩ | h
  ·right;left
   rw[if_pos ⟨h1,by omega⟩];simp;omega
  ·by_cases hle:toOf t i≤(i:Int)
   ·left;rw[if_pos ⟨by omega,hle⟩];simp;omega
   ·right
    by_cases hc:onOf t i=true∧(i:Int)+1 < (t.length:Int)∧toOf t i=(i:Int)+1
    ·left;rw[if_pos ⟨hc.1,hc.2.1⟩];simp;omega
    ·right;rw[if_pos ⟨by omega,hc⟩];simp;omega
end Go.Ev
end

section
open Go
namespace Go.Ev
inductive Come (N:Nat→Nat→Bool) (A:Nat→Bool):Nat→Prop
 | start {j:Nat} :A j=true→Come N A j
 | step {k j:Nat} :Come N A k→N k j=true→Come N A j
noncomputable def comeB (N:Nat→Nat→Bool) (A:Nat→Bool) (j:Nat):Bool:= @decide (Come N A j) (Classical.propDecidable _)
theorem Zd7 {N:Nat→Nat→Bool} {A:Nat→Bool} {j:Nat} :comeB N A j=true↔Come N A j:= @decide_eq_true_iff _ (Classical.propDecidable _)
theorem Zrm {N:Nat→Nat→Bool} {A M:Nat→Bool} (h1:∀j,A j=true→M j=true) (h2:∀k j,M k=true→N k j=true→M j=true) (h3:∀j,M j=true→Come N A j) (j:Nat):M j=comeB N A j:=by
 rw[Bool.eq_iff_iff,Zd7]
 refine ⟨h3 j,fun h=>?_⟩
 induction h with
 | start h=>exact h1 _ h
 | step _ h ih=>exact h2 _ _ ih h
theorem ZCH {N:Nat→Nat→Bool} {A:Nat→Bool} {n:Nat} (hA:∀j,A j=true→j < n) (hN:∀k j,N k j=true→j < n) {j:Nat} (h:Come N A j):j < n:=by
 cases h with
 | start h=>exact hA _ h
 | step _ h=>exact hN _ _ h
def card (n:Nat) (M:Nat→Bool):Nat:=(List.range n).countP M
theorem Zfa {n:Nat} {M:Nat→Bool} :card n M≤n:=by
 have:=List.countP_le_length (p:=M) (l:=List.range n)
 simpa[card] using this
theorem ZpJ {M:Nat→Bool} {i:Nat} (hM:M i=false):∀ {n:Nat},i < n→card n (fun j=>M j || (j==i))=card n M+1:=by
 intro n
 induction n with
 | zero=>intro h;omega
 | succ n ih=>
  intro h
  unfold card at*
  rw[List.range_succ,List.countP_append,List.countP_append]
  by_cases hi:i=n
  ·subst hi
   have e:(List.range i).countP (fun j=>M j || (j==i))=(List.range i).countP M:=List.countP_congr fun j hj=>by
    have:=List.mem_range.1 hj
    have:(j==i)=false:=by simp;omega
    rw[this,Bool.or_false]
   rw[e]
   simp[hM]
  ·rw[ih (by omega)]
   have:(n==i)=false:=by simp;omega
   simp[this]
   omega
theorem Zfr {n:Nat} {M:Nat→Bool} :(listOf n M).length=card n M:=by
 unfold listOf card
 rw[List.length_map,List.countP_eq_length_filter]
end Go.Ev
end

section
open Go
namespace Go.Ev
noncomputable def fromB (t:List (El Za)) (i:Int) (j:Nat):Bool:=comeB (fun k j=>nextB t (k:Int) j) (nextB t i) j
theorem ZDR {t:List (El Za)} {i:Int} {j:Nat} (h:fromB t i j=true):j < t.length:=ZCH (fun j=>Zfe) (fun k j=>Zfe) (Zd7.1 h)
end Go.Ev
end

section
open Go
namespace Go.Ev
def roundL (N:Nat→Nat→Bool) (n:Nat) (r:List Bool):List Bool:=(List.range n).map fun j=>r.getD j false || (List.range n).any fun k=>r.getD k false&&N k j
def iterL (N:Nat→Nat→Bool) (n:Nat):Nat→List Bool→List Bool
 | 0,r=>r
 | m+1,r=>iterL N n m (roundL N n r)
def comeL (N:Nat→Nat→Bool) (A:Nat→Bool) (n:Nat):List Bool:=iterL N n n ((List.range n).map A)
theorem Zv5 {n:Nat} {M:Nat→Bool} {j:Nat} :((List.range n).map M).getD j false=(decide (j < n)&&M j):=by
 rw[List.getD_eq_getElem?_getD,List.getElem?_map]
 by_cases h:j < n
 ·rw[List.getElem?_range h,decide_eq_true h];rfl
 ·rw[List.getElem?_eq_none (by simpa using h),decide_eq_false h];rfl
theorem ZhT {N:Nat→Nat→Bool} {n:Nat} {r:List Bool} {j:Nat} :(roundL N n r).getD j false=true↔j < n∧(r.getD j false=true∨∃k,k < n∧r.getD k false=true∧N k j=true):=by
 unfold roundL
 rw[Zv5]
 simp only[Bool.and_eq_true,decide_eq_true_eq,Bool.or_eq_true,List.any_eq_true,List.mem_range]
theorem Zu5 {N:Nat→Nat→Bool} {A:Nat→Bool} {n:Nat} :∀(m:Nat) (r:List Bool),(∀j,r.getD j false=true→Come N A j)→∀j,(iterL N n m r).getD j false=true→Come N A j
 | 0,r,h,j,hj=>h j hj
 | m+1,r,h,j,hj=>Zu5 m _ (fun j hj=>by
   obtain ⟨_,h1 | ⟨k,_,hk,hN⟩⟩:=ZhT.1 hj
   ·exact h j h1
   ·exact .step (h k hk) hN) j hj
def cnt (n:Nat) (r:List Bool):Nat:=card n fun j=>r.getD j false
theorem ZxX {n:Nat} {M M':Nat→Bool} (h:∀j,M j=true→M' j=true):card n M≤card n M':=List.countP_mono_left fun j _ hj=>h j hj
theorem ZEQ {n:Nat} {M M':Nat→Bool} (h:∀j,M j=true→M' j=true) {i:Nat} (hi:i < n) (h1:M i=false) (h2:M' i=true):card n M+1≤card n M':=by
 rw[←ZpJ h1 hi]
 refine ZxX fun j hj=>?_
 rw[Bool.or_eq_true] at hj
 rcases hj with hj | hj
 ·exact h j hj
 ·rw[beq_iff_eq] at hj;subst hj;exact h2
theorem ZCv {n:Nat} {M:Nat→Bool} (h:n≤card n M):∀j,j < n→M j=true:=by
 intro j hj
 cases hM:M j with
 | true=>rfl
 | false=>
  have h1:=ZpJ hM hj
  have:= @Zfa n (fun k=>M k || (k==j))
  omega
def closedL (N:Nat→Nat→Bool) (n:Nat) (r:List Bool):Prop:=∀k j,k < n→j < n→r.getD k false=true→N k j=true→r.getD j false=true
theorem Zst {N:Nat→Nat→Bool} {n:Nat} :∀(m:Nat) (r:List Bool),closedL N n r∨n≤cnt n r+m→(closedL N n (iterL N n m r))∧∀j,j < n→r.getD j false=true→(iterL N n m r).getD j false=true
 | 0,r,h=>by
  refine ⟨?_,fun j _ h=>h⟩
  rcases h with h | h
  ·exact h
  ·exact fun k j _ hj _ _=>ZCv (M:=fun j=>r.getD j false) (by simpa[cnt] using h) j hj
 | m+1,r,h=>by
  have keep:∀j,j < n→r.getD j false=true→(roundL N n r).getD j false=true:=fun j hj h=>ZhT.2 ⟨hj,.inl h⟩
  have hrec:=Zst m (roundL N n r) (by
   rcases h with h | h
   ·left
    intro k j hk hj h1 h2
    refine keep j hj ?_
    obtain ⟨_,h3 | ⟨q,hq,h3,h4⟩⟩:=ZhT.1 h1
    ·exact h k j hk hj h3 h2
    ·exact h k j hk hj (h q k hq hk h3 h4) h2
   ·by_cases hc:closedL N n (roundL N n r)
    ·exact .inl hc
    ·right
     have hnc:¬closedL N n r:=fun hc'=>hc (by
      intro k j hk hj h1 h2
      refine keep j hj ?_
      obtain ⟨_,h3 | ⟨q,hq,h3,h4⟩⟩:=ZhT.1 h1
      ·exact hc' k j hk hj h3 h2
      ·exact hc' k j hk hj (hc' q k hq hk h3 h4) h2)
     have ⟨k,j,hk,hj,h1,h2,h3⟩:∃k j,k < n∧j < n∧r.getD k false=true∧N k j=true∧r.getD j false=false:=by
      refine Classical.byContradiction fun hn=>hnc fun k j hk hj h1 h2=>?_
      cases hb:r.getD j false with
      | true=>rfl
      | false=>exact absurd ⟨k,j,hk,hj,h1,h2,hb⟩ hn
     have hlt:card n (fun j=>decide (j < n)&&r.getD j false)+1≤cnt n (roundL N n r):=ZEQ (M':=fun j=>(roundL N n r).getD j false) (fun j hj'=>by
      rw[Bool.and_eq_true,decide_eq_true_eq] at hj'
      exact keep j hj'.1 hj'.2) hj (by rw[h3,Bool.and_false]) (ZhT.2 ⟨hj,.inr ⟨k,hk,h1,h2⟩⟩)
     have he:card n (fun j=>decide (j < n)&&r.getD j false)=cnt n r:=List.countP_congr fun j hj=>by
      have:=List.mem_range.1 hj
      simp[this]
     omega)
  exact ⟨hrec.1,fun j hj h1=>hrec.2 j hj (keep j hj h1)⟩
theorem ZwY {N:Nat→Nat→Bool} {A:Nat→Bool} {n:Nat} (hA:∀j,A j=true→j < n) (hN:∀k j,N k j=true→j < n) (j:Nat):comeB N A j=(comeL N A n).getD j false:=by
 obtain ⟨hc,hk⟩:=Zst (N:=N) (n:=n) n ((List.range n).map A) (.inr (Nat.le_add_left _ _))
 have hlt:∀m r j,r.length≤n→(iterL N n m r).getD j false=true→j < n:=by
  intro m
  induction m with
  | zero=>
   intro r j hr h
   have h:r.getD j false=true:=h
   rw[List.getD_eq_getElem?_getD] at h
   by_cases hj:j < r.length
   ·omega
   ·rw[List.getElem?_eq_none (by omega)] at h;cases h
  | succ m ih=>intro r j _ h;exact ih _ j (by simp[roundL]) h
 symm
 refine Zrm (M:=fun j=>(comeL N A n).getD j false) (fun j hj=>hk j (hA j hj) ?_) (fun k j h1 h2=>?_) (fun j hj=>?_) j
 ·rw[Zv5,decide_eq_true (hA j hj),hj];rfl
 ·exact hc k j (hlt n _ k (by simp) h1) (hN k j h2) h1 h2
 ·exact Zu5 n _ (fun j hj=>by
   rw[Zv5,Bool.and_eq_true] at hj
   exact .start hj.2) j hj
end Go.Ev
end

section
open Go Go.Ev
namespace Go.Ev
noncomputable section
def ZcG:Sig:=[(true,Zb),(true,Zb)]
noncomputable def ZkR:Tbl:=[]
theorem Zuj:∀p∈ZkR,EntOK Go.Proofs.Tryz.prog p.1 p.2:=Zu
noncomputable def Zg7:Code:=Go.Proofs.Tryz.f37.body.getD .skip
def ZjA:Tb:=[]
def ZoL (a:El Zb) (b:El Zb):Empty→JT Empty (Bool):=fun j=>nomatch j
def Znk (a:El Zb) (b:El Zb):JT Empty (Bool):=.br (a.1 !=b.1) (.br (a.2.2.2.1==b.2.2.2.1) (.br a.2.2.2.2.1 (.leaf true) (.leaf b.2.2.2.2.1)) (.leaf false)) (.leaf false)
def Zdq (a:El Zb) (b:El Zb):Bool:=bif (a.1 !=b.1) then bif (a.2.2.2.1==b.2.2.2.1) then bif a.2.2.2.2.1 then true else b.2.2.2.2.1 else false else false
theorem Zvb (a:El Zb) (b:El Zb):Goes (ZoL a b) (Znk a b) (Zdq a b):=Goes.br (Goes.br (Goes.br (Goes.leaf) (Goes.leaf)) (Goes.leaf)) (Goes.leaf)
def ZgS:Bool→AV:=fun (r:Bool)=>.d .bool r
def Zci (a:El Zb) (b:El Zb):Empty→Nat×St:=fun j=>nomatch j
theorem Zuh (a:El Zb) (b:El Zb) (L:Lt):entryA Go.Proofs.Tryz.prog (clOf ZkR) ZjA Go.Proofs.Tryz.f37 Zg7 L (toForms ZcG (a,b,()))=(Znk a b).run (fun v=>some (ZgS v,tps (toForms ZcG (a,b,())))) fun j=>L (Zci a b j).1 (Zci a b j).2:=by kernel_rfl
theorem Zum (a:El Zb) (b:El Zb):∀(L:Lt) (j:Empty),procOf (procsF Go.Proofs.Tryz.prog (clOf ZkR) ZjA Go.Proofs.Tryz.f37 Zg7 (toForms ZcG (a,b,()))) (Zci a b j).1 L (Zci a b j).2=(ZoL a b j).run (fun v=>some (ZgS v,tps (toForms ZcG (a,b,())))) fun j=>L (Zci a b j).1 (Zci a b j).2:=fun L j=>nomatch j
noncomputable def ZoT:Run:=entT ZcG ZgS (fun a=>Zdq a.1 a.2.1)
theorem Zt2:EntOK Go.Proofs.Tryz.prog 37 ZoT:=Zaf (tb:=ZjA) (c:=Zg7) Zuj (by kernel_rfl) (by kernel_rfl) (by kernel_rfl) (fun a=>by kernel_rfl) fun ⟨a,b,_⟩=>Zp (c:=Zg7) (K:=fun v=>(ZgS v,tps (toForms ZcG (a,b,())))) (S:=Zci a b) (by kernel_rfl) (Zuh a b) (Zum a b) (Zvb a b)
end
end Go.Ev
end

section
open Go
namespace Go.Ev
abbrev Acc:=El Zb
def accA (l:List Acc) (i:Nat):Acc:=l.getD i (dflt Zb)
def thA (l:List Acc) (i:Nat):Int:=(accA l i).1
def inA (l:List Acc) (i:Nat):Int:=(accA l i).2.1
def paA (l:List Acc) (i:Nat):Int:=(accA l i).2.2.1
def clB (l:List Acc) (i j:Nat):Bool:=Zdq (accA l i) (accA l j)
def thrOf (p:El Zc) (l:List Acc) (c:Nat):List (El Za):=p.2.getD (thA l c).toNat (dflt (.sl Za))
noncomputable def behB (p:El Zc) (l:List Acc) (c d:Nat):Bool:=
 decide (d < l.length)&&(thA l d==thA l c&&(d==c || ((inA l d==inA l c&&decide (paA l d > paA l c)) || (decide (0≤inA l d)&&fromB (thrOf p l c) (inA l c) (inA l d).toNat))))
theorem ZDa {p:El Zc} {l:List Acc} {c d:Nat} (h:behB p l c d=true):d < l.length∧thA l d=thA l c:=by
 unfold behB at h
 simp only[Bool.and_eq_true,decide_eq_true_eq,beq_iff_eq] at h
 exact ⟨h.1,h.2.1⟩
theorem ZxD {p:El Zc} {l:List Acc} {c:Nat} (h:c < l.length):behB p l c c=true:=by
 unfold behB
 simp[h]
theorem ZBD {t:List (El Za)} {i:Int} {j k:Nat} (h1:fromB t i j=true) (h2:fromB t (j:Int) k=true):fromB t i k=true:=by
 unfold fromB at*
 rw[Zd7] at*
 induction h2 with
 | start h=>exact .step h1 h
 | step _ h ih=>exact .step ih h
theorem ZBK {p:El Zc} {l:List Acc} {c d e:Nat} (h1:behB p l c d=true) (h2:behB p l d e=true):behB p l c e=true:=by
 unfold behB at*
 have ht:thrOf p l d=thrOf p l c:=by
  simp only[Bool.and_eq_true,beq_iff_eq] at h1
  unfold thrOf
  rw[h1.2.1]
 rw[ht] at h2
 simp only[Bool.and_eq_true,Bool.or_eq_true,decide_eq_true_eq,beq_iff_eq] at*
 obtain ⟨a1,a2,a3⟩:=h1
 obtain ⟨b1,b2,b3⟩:=h2
 refine ⟨b1,b2.trans a2,?_⟩
 rcases a3 with rfl | a3
 ·exact b3
 rcases b3 with rfl | b3
 ·exact .inr a3
 right
 rcases a3 with ⟨a3,a4⟩ | ⟨a3,a4⟩
 ·rcases b3 with ⟨b3,b4⟩ | ⟨b3,b4⟩
  ·exact .inl ⟨b3.trans a3,by omega⟩
  ·right
   rw[a3] at b4
   exact ⟨b3,b4⟩
 ·right
  rcases b3 with ⟨b3,b4⟩ | ⟨b3,b4⟩
  ·rw[b3]
   exact ⟨a3,a4⟩
  ·refine ⟨b3,ZBD a4 ?_⟩
   rw[Int.toNat_of_nonneg a3]
   exact b4
noncomputable def chB (p:El Zc) (l:List Acc) (a i k:Nat):Bool:=decide (k < l.length)&&(!(thA l k==thA l a)&&(clB l i k || behB p l i k))
def chS (l:List Acc) (a k:Nat):Bool:=decide (k < l.length)&&clB l a k
noncomputable def isB (p:El Zc) (l:List Acc) (a k:Nat):Bool:=comeB (chB p l a) (chS l a) k
noncomputable def backB (p:El Zc) (l:List Acc) (a b:Nat):Bool:=thA l b==thA l a&&(List.range l.length).any fun k=>isB p l a k&&clB l k b
theorem ZDm {l:List Acc} {i j:Nat} (h:clB l i j=true):thA l i≠thA l j:=by
 intro e
 unfold clB Zdq at h
 have:((accA l i).1 !=(accA l j).1)=false:=by
  show ((thA l i) !=(thA l j))=false
  rw[e];simp
 rw[this] at h
 cases h
theorem ZFD {p:El Zc} {l:List Acc} {a k:Nat} (h:isB p l a k=true):k < l.length∧thA l k≠thA l a:=by
 have h:=Zd7.1 h
 cases h with
 | start h=>
  unfold chS at h
  simp only[Bool.and_eq_true,decide_eq_true_eq] at h
  exact ⟨h.1,fun e=>ZDm h.2 e.symm⟩
 | step _ h=>
  unfold chB at h
  simp only[Bool.and_eq_true,decide_eq_true_eq,Bool.not_eq_true',beq_eq_false_iff_ne] at h
  exact ⟨h.1,h.2.1⟩
theorem ZEN {p:El Zc} {l:List Acc} {a:Nat} {C G:Nat→Bool} (hC:∀c,C c=true↔c < l.length∧thA l c≠thA l a∧(clB l a c=true∨∃k,G k=true∧clB l k c=true)) (hG:∀d,G d=true↔∃c,C c=true∧behB p l c d=true)
  (hs:∀d,G d=true→isB p l a d=true) (d:Nat):G d=isB p l a d:=by
 refine Zrm (fun j hj=>?_) (fun k j hk hj=>?_) (fun j hj=>Zd7.1 (hs j hj)) d
 ·unfold chS at hj
  simp only[Bool.and_eq_true,decide_eq_true_eq] at hj
  exact (hG j).2 ⟨j,(hC j).2 ⟨hj.1,fun e=>ZDm hj.2 e.symm,.inl hj.2⟩,ZxD hj.1⟩
 ·unfold chB at hj
  simp only[Bool.and_eq_true,decide_eq_true_eq,Bool.not_eq_true',beq_eq_false_iff_ne,Bool.or_eq_true] at hj
  obtain ⟨h1,h2,h3⟩:=hj
  rcases h3 with h3 | h3
  ·exact (hG j).2 ⟨j,(hC j).2 ⟨h1,h2,.inr ⟨k,hk,h3⟩⟩,ZxD h1⟩
  ·obtain ⟨c,hc,hb⟩:=(hG k).1 hk
   exact (hG j).2 ⟨c,hc,ZBK hb h3⟩
variable {s:Int×List (Int×Int)} {n:Nat} {M:Nat→Bool}
theorem SetOK.putO (h:SetOK s n M) (hn:n < 4611686018427387904) {j:Nat} (hj:j < n):(putS s (j:Int)).1=(!M j)∧SetOK (putS s (j:Int)).2 n (fun k=>M k || (k==j)):=by
 cases hb:M j with
 | false=>
  obtain ⟨p1,p2⟩:=h.put hn hj hb
  exact ⟨p1,p2⟩
 | true=>
  rw[h.put_no hn (i:=(j:Int)) fun hh=>by rw[Int.toNat_natCast,hb] at hh;cases hh.2.2]
  refine ⟨rfl,?_⟩
  rw[show (fun k=>M k || (k==j))=M from funext fun k=>by
   by_cases hk:k=j
   ·subst hk;rw[hb];rfl
   ·have:(k==j)=false:=by simp;omega
    rw[this,Bool.or_false]]
  exact h
theorem SetOK.congr' {M':Nat→Bool} (h:SetOK s n M) (e:∀j,M j=M' j):SetOK s n M':=by rwa[show M'=M from funext fun j=>(e j).symm]
def listR (n:Nat) (M:Nat→Bool) (h:Nat):List Int:=((List.range' h (n - h)).filter M).map Int.ofNat
theorem ZBU:listR n M 0=listOf n M:=by unfold listR listOf;rw[List.range_eq_range',Nat.sub_zero]
theorem ZCD:listR n M n=[]:=by unfold listR;rw[Nat.sub_self];rfl
theorem Zuq {h:Nat} (hh:h < n):listR n M h=if M h=true then (h:Int) :: listR n M (h+1) else listR n M (h+1):=by
 unfold listR
 rw[show n - h=(n - (h+1))+1 by omega,List.range'_succ,List.filter_cons]
 split <;> rfl
end Go.Ev
end

section
open Go
namespace Go.Ev
def plB (l:List (El Zb)) (t:Int) (w:Bool) (k:Nat):Bool:=((List.getD l k (dflt Zb)).1==t)&&((List.getD l k (dflt Zb)).2.2.2.2.1==w)&& ! (List.getD l k (dflt Zb)).2.2.2.2.2
def ZB (l:List (El Zb)) (t:Int) (write:Bool):List Int:=listOf l.length (plB l t write)
def Zce (l:List (El Zb)) (t:Int) (write:Bool):Bool:=decide (l.length < 1000000000)
theorem Zwn (l:List (El Zb)) (t:Int) (write:Bool) (hk:Zce l t write=true):Goes (Zfb l t write) (Znh l t write) (ZB l t write):=by
 have hN:=of_decide_eq_true hk
 have outer:∀k,k≤l.length→∀out:List Int,out.length≤k→out++((List.range' k (l.length - k)).filter (plB l t write)).map (fun k:Nat=>(k:Int))=ZB l t write→
   Goes (Zfb l t write) (.jmp (.l4 (k:Int) out)) (ZB l t write):=by
  refine down ?_ fun k hk ih=>?_
  ·intro out ho he
   rw[Zn,Zfb,Zf,if_neg (by rw[ZW (Nat.lt_irrefl _)];decide)]
   rw[Nat.sub_self] at he
   simp only[List.range'_zero,List.filter_nil,List.map_nil,List.append_nil] at he
   rw[←he]
   exact .leaf
  ·intro out ho he
   have b1:Nat.ble ((out.length+1)*8) limit=true:=Nat.ble_eq_true_of_le (by unfold limit;omega)
   rw[show l.length - k=(l.length - (k+1))+1 by omega,List.range'_succ,List.filter_cons] at he
   rw[Zn,Zfb]
   simp only[Zf,ZaK hk,nng,Bool.and_self,if_true,Int.toNat_natCast,b1,Zz (k:=k) (by omega)]
   obtain ⟨x,hx⟩:∃x,List.getD l k (dflt Zb)=x:=⟨_,rfl⟩
   have hp:plB l t write k=((x.1==t)&&(x.2.2.2.2.1==write)&& ! x.2.2.2.2.2):=by unfold plB;rw[hx]
   rw[hp] at he
   rw[hx]
   cases c1:(x.1==t) with
   | false=>
    rw[c1] at he
    exact ih _ (by omega) he
   | true=>
    cases c2:(x.2.2.2.2.1==write) with
    | false=>
     rw[c1,c2] at he
     exact ih _ (by omega) he
    | true=>
     cases c3:(! (show Bool from x.2.2.2.2.2)) with
     | false=>
      have c3':(! x.2.2.2.2.2)=false:=c3
      rw[c1,c2] at he
      simp only[c3',Bool.and_false,Bool.false_eq_true,if_false] at he ⊢
      exact ih _ (by omega) he
     | true=>
      have c3':(! x.2.2.2.2.2)=true:=c3
      rw[c1,c2] at he
      simp only[c3',Bool.and_true,Bool.true_and,if_true,List.map_cons] at he ⊢
      exact ih _ (by simp;omega) (by rw[List.append_assoc];exact he)
 refine outer 0 (Nat.zero_le _) [] (Nat.zero_le _) ?_
 unfold ZB listOf
 rw[List.nil_append,List.range_eq_range']
 rfl
end Go.Ev
end

section
open Go Go.Ev
namespace Go.Ev
noncomputable section
noncomputable def Zpl:Run:=entG ZcC Zhc (fun a=>Zce a.1 a.2.1 a.2.2.1) (fun a=>ZB a.1 a.2.1 a.2.2.1)
theorem Zts:EntOK Go.Proofs.Tryz.prog 13 Zpl:=Zao (tb:=Zjj) (c:=ZgK) Ztz (by kernel_rfl) (by kernel_rfl) (by kernel_rfl) (fun a=>by kernel_rfl) fun ⟨l,t,write,_⟩ hk=>Zp (c:=ZgK) (K:=fun v=>(Zhc v,tps (toForms ZcC (l,t,write,())))) (S:=Zcj l t write) (by kernel_rfl) (Zun l t write) (Zt9 l t write) (Zwn l t write hk)
end
end Go.Ev
end

section
open Go Go.Ev
namespace Go.Ev
noncomputable section
def ZfJ:Sig:=[(false,(.int .i64))]
noncomputable def ZpS:Tbl:=[]
theorem ZAB:∀p∈ZpS,EntOK Go.Proofs.Tryz.prog p.1 p.2:=Zu
noncomputable def Znb:Code:=Go.Proofs.Tryz.f14.body.getD .skip
def ZnT:Tb:=[]
def ZuZ (n:Int):Empty→JT Empty (Int×List (Int×Int)):=fun j=>nomatch j
def ZrF (n:Int):JT Empty (Int×List (Int×Int)):=.leaf ((maxI n (0:Int)),[])
def Zq (n:Int):Int×List (Int×Int):=((maxI n (0:Int)),[])
theorem ZBE (n:Int):Goes (ZuZ n) (ZrF n) (Zq n):=Goes.leaf
def ZmL:Int×List (Int×Int)→AV:=fun (r:Int×List (Int×Int))=>.bx 78 [.d (.int .i64) r.1,.mv (.int .i64) (.int .u64) r.2]
def ZfG (n:Int):Empty→Nat×St:=fun j=>nomatch j
theorem ZAl (n:Int) (L:Lt):entryA Go.Proofs.Tryz.prog (clOf ZpS) ZnT Go.Proofs.Tryz.f14 Znb L (toForms ZfJ (n,()))=(ZrF n).run (fun v=>some (ZmL v,tps (toForms ZfJ (n,())))) fun j=>L (ZfG n j).1 (ZfG n j).2:=by kernel_rfl
theorem ZAa (n:Int):∀(L:Lt) (j:Empty),procOf (procsF Go.Proofs.Tryz.prog (clOf ZpS) ZnT Go.Proofs.Tryz.f14 Znb (toForms ZfJ (n,()))) (ZfG n j).1 L (ZfG n j).2=(ZuZ n j).run (fun v=>some (ZmL v,tps (toForms ZfJ (n,())))) fun j=>L (ZfG n j).1 (ZfG n j).2:=fun L j=>nomatch j
noncomputable def Zhm:Run:=entT ZfJ ZmL (fun a=>Zq a.1)
theorem ZhM:EntOK Go.Proofs.Tryz.prog 14 Zhm:=Zaf (tb:=ZnT) (c:=Znb) ZAB (by kernel_rfl) (by kernel_rfl) (by kernel_rfl) (fun a=>by kernel_rfl) fun ⟨n,_⟩=>Zp (c:=Znb) (K:=fun v=>(ZmL v,tps (toForms ZfJ (n,())))) (S:=ZfG n) (by kernel_rfl) (ZAl n) (ZAa n) (ZBE n)
end
end Go.Ev
end

section
open Go Go.Ev
namespace Go.Ev
noncomputable section
def ZdL:Sig:=[(true,(.sl Za)),(false,.str)]
noncomputable def Zl4:Tbl:=[]
theorem Zxe:∀p∈Zl4,EntOK Go.Proofs.Tryz.prog p.1 p.2:=Zu
noncomputable def ZiG:Code:=Go.Proofs.Tryz.f52.body.getD .skip
def ZkN:Tb:=[(3,⟨[1,10,11,12],[]⟩),(9,⟨[1,5,10,11,12,18,19,20],[]⟩)]
inductive Zgn where | l3 (h:Int) | l9 (h:List ByteArray) (h1:Int) (h2:Int) (k:Int) (h3:Int)
def Zb2 (t:List (El Za)) (label:ByteArray):Zgn→JT Zgn (Int) |.l3 h=>.br (decide (h < (Int.ofNat (List.length t)))) (.br ((decide ((0:Int)≤h))&&(decide (h < (Int.ofNat (List.length t))))) (.jmp (.l9 (List.getD t (Int.toNat h) (dflt Za)).2.2.2.2.2.2 (Int.ofNat (List.length (List.getD t (Int.toNat h) (dflt Za)).2.2.2.2.2.2)) (0:Int) h h)) (.no)) (.leaf (-1:Int)) |.l9 h h1 h2 k h3=>.br (decide (h2 < h1)) (.br ((decide ((0:Int)≤h2))&&(decide (h2 < (Int.ofNat (List.length h))))) (.br (eqB (List.getD h (Int.toNat h2) (dflt .str)) label) (.leaf k) (.jmp (.l9 h h1 (IntKind.i64.wrap (h2+(1:Int))) k h3))) (.no)) (.jmp (.l3 (IntKind.i64.wrap (h3+(1:Int)))))
def Zli (t:List (El Za)) (label:ByteArray):JT Zgn (Int):=.jmp (.l3 (0:Int))
def ZiJ:Int→AV:=fun (r:Int)=>.d (.int .i64) r
def Zc6 (t:List (El Za)) (label:ByteArray):Zgn→Nat×St |.l3 h=>(3,⟨mkTm 30 [(1,.d .str label),(10,.d (.sl Za) t),(11,.d (.int .i64) (Int.ofNat (List.length t))),(12,.d (.int .i64) h)],[]⟩) |.l9 h h1 h2 k h3=>(9,⟨mkTm 30 [(1,.d .str label),(5,.d (.int .i64) k),(10,.d (.sl Za) t),(11,.d (.int .i64) (Int.ofNat (List.length t))),(12,.d (.int .i64) h3),(18,.d (.sl .str) h),(19,.d (.int .i64) h1),(20,.d (.int .i64) h2)],[]⟩)
theorem ZvC (t:List (El Za)) (label:ByteArray) (L:Lt):entryA Go.Proofs.Tryz.prog (clOf Zl4) ZkN Go.Proofs.Tryz.f52 ZiG L (toForms ZdL (t,label,()))=(Zli t label).run (fun v=>some (ZiJ v,tps (toForms ZdL (t,label,())))) fun j=>L (Zc6 t label j).1 (Zc6 t label j).2:=by kernel_rfl
theorem ZvZ (t:List (El Za)) (label:ByteArray):∀(L:Lt) (j:Zgn),procOf (procsF Go.Proofs.Tryz.prog (clOf Zl4) ZkN Go.Proofs.Tryz.f52 ZiG (toForms ZdL (t,label,()))) (Zc6 t label j).1 L (Zc6 t label j).2=(Zb2 t label j).run (fun v=>some (ZiJ v,tps (toForms ZdL (t,label,())))) fun j=>L (Zc6 t label j).1 (Zc6 t label j).2 | L,.l3 h=>by kernel_rfl | L,.l9 h h1 h2 k h3=>by kernel_rfl
end
end Go.Ev
end

section
open Go
namespace Go.Ev
def Zas (t:List (El Za)) (label:ByteArray):Int:=findI label t 0
def Zgp (t:List (El Za)) (label:ByteArray):Bool:=decide (t.length < 1099511627776)&&t.all fun i=>decide (i.2.2.2.2.2.2.length < 1099511627776)
theorem ZyZ (t:List (El Za)) (label:ByteArray) (hk:Zgp t label=true):Goes (Zb2 t label) (Zli t label) (Zas t label):=by
 unfold Zgp at hk
 simp only[Bool.and_eq_true,decide_eq_true_eq,List.all_eq_true] at hk
 obtain ⟨hn,hl⟩:=hk
 have loop:∀k,k≤t.length→Goes (Zb2 t label) (.jmp (.l3 (k:Int))) (findI label (t.drop k) k):=by
  refine down ?_ fun k hk ih=>?_
  ·rw[Zn]
   simp only[Zb2,Zf,ZW (Nat.lt_irrefl _),Z9,List.drop_length]
   simp[findI]
  ·have hli:=hl t[k] (List.getElem_mem hk)
   rw[Zn]
   simp only[Zb2,Zf,ZaK hk,nng,Bool.and_self,if_true,Int.toNat_natCast,Z4 hk]
   rw[Z3 hk]
   unfold findI
   generalize t[k].2.2.2.2.2.2=ls at hli
   have inner:∀j,j≤ls.length→Goes (Zb2 t label) (.jmp (.l9 ls (Int.ofNat ls.length) (j:Int) (k:Int) (k:Int))) (if (ls.drop j).contains label then (k:Int) else findI label (t.drop (k+1)) (k+1)):=by
    refine down ?_ fun j hj ihj=>?_
    ·rw[Zn]
     simp only[Zb2,Zf,ZW (Nat.lt_irrefl _),Zz (k:=k) (by omega),List.drop_length]
     simpa using ih
    ·rw[Zn]
     simp only[Zb2,Zf,ZaK hj,nng,Bool.and_self,if_true,Int.toNat_natCast,Z4 hj,Zz (k:=j) (by omega),ZnW]
     rw[Z3 hj,List.contains_cons]
     by_cases h:ls[j]=label
     ·rw[if_pos h];subst h;simp[Z9]
     ·rw[if_neg h,beq_false_of_ne (Ne.symm h),Bool.false_or]
      exact ihj
   simpa using inner 0 (Nat.zero_le _)
 unfold Zli Zas
 simpa using loop 0 (Nat.zero_le _)
end Go.Ev
end

section
open Go Go.Ev
namespace Go.Ev
noncomputable section
noncomputable def ZqJ:Run:=entG ZdL ZiJ (fun a=>Zgp a.1 a.2.1) (fun a=>Zas a.1 a.2.1)
theorem ZvO:EntOK Go.Proofs.Tryz.prog 52 ZqJ:=Zao (tb:=ZkN) (c:=ZiG) Zxe (by kernel_rfl) (by kernel_rfl) (by kernel_rfl) (fun a=>by kernel_rfl) fun ⟨t,label,_⟩ hk=>Zp (c:=ZiG) (K:=fun v=>(ZiJ v,tps (toForms ZdL (t,label,())))) (S:=Zc6 t label) (by kernel_rfl) (ZvC t label) (ZvZ t label) (ZyZ t label hk)
end
end Go.Ev
end

section
open Go Go.Ev
namespace Go.Ev
noncomputable section
def ZeM:Sig:=[(true,(.sl Za)),(false,(.int .i64))]
noncomputable def ZnX:Tbl:=[(51,Zn9),(52,ZqJ)]
theorem Zy8:∀p∈ZnX,EntOK Go.Proofs.Tryz.prog p.1 p.2:=Zi Zqk (Zi ZvO (Zu))
noncomputable def ZkV:Code:=Go.Proofs.Tryz.f33.body.getD .skip
def Zls:Tb:=[(12,⟨[1,5,8,55,68,76],[(9,110)]⟩),(14,⟨[5,8,78],[]⟩),(hintK,⟨[],[(1,110)]⟩)]
inductive Zh6 where | l12 (to_:Int) (out:List Int) (h:Bool) | l14 (to_:Int) (out:List Int) (h:Bool)
def Zee (t:List (El Za)) (i:Int):Zh6→JT Zh6 (List Int) |.l12 to_ out h=>.br h (.br (Nat.ble (((List.length out)+1)*8) limit) (.br (decide (to_ > i)) (.br ((Int.ofNat (List.length (out++[(IntKind.i64.wrap (i+(1:Int)))])))==(0:Int)) (.jmp (.l14 to_ (out++[(IntKind.i64.wrap (i+(1:Int)))]) true)) (.br ((decide ((0:Int)≤(IntKind.i64.wrap ((Int.ofNat (List.length (out++[(IntKind.i64.wrap (i+(1:Int)))]))) - (1:Int)))))&&(decide ((IntKind.i64.wrap ((Int.ofNat (List.length (out++[(IntKind.i64.wrap (i+(1:Int)))]))) - (1:Int))) < (Int.ofNat (List.length (out++[(IntKind.i64.wrap (i+(1:Int)))])))))) (.jmp (.l14 to_ (out++[(IntKind.i64.wrap (i+(1:Int)))]) ((List.getD (out++[(IntKind.i64.wrap (i+(1:Int)))]) (Int.toNat (IntKind.i64.wrap ((Int.ofNat (List.length (out++[(IntKind.i64.wrap (i+(1:Int)))]))) - (1:Int)))) (dflt (.int .i64))) !=to_))) (.no))) (.jmp (.l14 to_ (out++[(IntKind.i64.wrap (i+(1:Int)))]) false))) (.no)) (.br (decide (to_ > i)) (.br ((Int.ofNat (List.length out))==(0:Int)) (.jmp (.l14 to_ out true)) (.br ((decide ((0:Int)≤(IntKind.i64.wrap ((Int.ofNat (List.length out)) - (1:Int)))))&&(decide ((IntKind.i64.wrap ((Int.ofNat (List.length out)) - (1:Int))) < (Int.ofNat (List.length out))))) (.jmp (.l14 to_ out ((List.getD out (Int.toNat (IntKind.i64.wrap ((Int.ofNat (List.length out)) - (1:Int)))) (dflt (.int .i64))) !=to_))) (.no))) (.jmp (.l14 to_ out false))) |.l14 to_ out h=>.br h (.br (Nat.ble (((List.length out)+1)*8) limit) (.leaf (out++[to_])) (.no)) (.leaf out)
def Zmb (t:List (El Za)) (i:Int):JT Zh6 (List Int):=.br (decide (i < (0:Int))) (.leaf []) (.br (decide (i≥(Int.ofNat (List.length t)))) (.leaf []) (.br ((decide ((0:Int)≤i))&&(decide (i < (Int.ofNat (List.length t))))) (.br (Zb9 (List.getD t (Int.toNat i) (dflt Za))) (.br (ZaR (List.getD t (Int.toNat i) (dflt Za))).2 (.br ((decide ((0:Int)≤i))&&(decide (i < (Int.ofNat (List.length t))))) (.br (Zgp t (List.getD t (Int.toNat i) (dflt Za)).2.2.2.2.2.1) (.br (decide ((Zas t (List.getD t (Int.toNat i) (dflt Za)).2.2.2.2.2.1)≥(0:Int))) (.br (decide ((Zas t (List.getD t (Int.toNat i) (dflt Za)).2.2.2.2.2.1)≤i)) (.br (ZaR (List.getD t (Int.toNat i) (dflt Za))).1 (.jmp (.l12 (Zas t (List.getD t (Int.toNat i) (dflt Za)).2.2.2.2.2.1) [(Zas t (List.getD t (Int.toNat i) (dflt Za)).2.2.2.2.2.1)] (decide ((IntKind.i64.wrap (i+(1:Int))) < (Int.ofNat (List.length t)))))) (.jmp (.l12 (Zas t (List.getD t (Int.toNat i) (dflt Za)).2.2.2.2.2.1) [(Zas t (List.getD t (Int.toNat i) (dflt Za)).2.2.2.2.2.1)] false))) (.br (ZaR (List.getD t (Int.toNat i) (dflt Za))).1 (.jmp (.l12 (Zas t (List.getD t (Int.toNat i) (dflt Za)).2.2.2.2.2.1) [] (decide ((IntKind.i64.wrap (i+(1:Int))) < (Int.ofNat (List.length t)))))) (.jmp (.l12 (Zas t (List.getD t (Int.toNat i) (dflt Za)).2.2.2.2.2.1) [] false)))) (.br (ZaR (List.getD t (Int.toNat i) (dflt Za))).1 (.jmp (.l12 (Zas t (List.getD t (Int.toNat i) (dflt Za)).2.2.2.2.2.1) [] (decide ((IntKind.i64.wrap (i+(1:Int))) < (Int.ofNat (List.length t)))))) (.jmp (.l12 (Zas t (List.getD t (Int.toNat i) (dflt Za)).2.2.2.2.2.1) [] false)))) (.no)) (.no)) (.br (ZaR (List.getD t (Int.toNat i) (dflt Za))).1 (.jmp (.l12 (-1:Int) [] (decide ((IntKind.i64.wrap (i+(1:Int))) < (Int.ofNat (List.length t)))))) (.jmp (.l12 (-1:Int) [] false)))) (.no)) (.no)))
def Zle:List Int→AV:=fun (r:List Int)=>.rw 3 (.int .i64) r
def Zeh (t:List (El Za)) (i:Int):Zh6→Nat×St |.l12 to_ out h=>(12,⟨mkTm 84 [(1,.d (.int .i64) i),(5,.d (.int .i64) to_),(8,.own 9 0 none),(55,.d .bool h)],[(9,0,.row 3 (.int .i64) out false)]⟩) |.l14 to_ out h=>(14,⟨mkTm 84 [(5,.d (.int .i64) to_),(8,.own 9 0 none),(78,.d .bool h)],[(9,0,.row 3 (.int .i64) out false)]⟩)
theorem Zzt (t:List (El Za)) (i:Int) (L:Lt):entryA Go.Proofs.Tryz.prog (clOf ZnX) Zls Go.Proofs.Tryz.f33 ZkV L (toForms ZeM (t,i,()))=(Zmb t i).run (fun v=>some (Zle v,tps (toForms ZeM (t,i,())))) fun j=>L (Zeh t i j).1 (Zeh t i j).2:=by kernel_rfl
theorem Zzr (t:List (El Za)) (i:Int):∀(L:Lt) (j:Zh6),procOf (procsF Go.Proofs.Tryz.prog (clOf ZnX) Zls Go.Proofs.Tryz.f33 ZkV (toForms ZeM (t,i,()))) (Zeh t i j).1 L (Zeh t i j).2=(Zee t i j).run (fun v=>some (Zle v,tps (toForms ZeM (t,i,())))) fun j=>L (Zeh t i j).1 (Zeh t i j).2 | L,.l12 to_ out h=>by kernel_rfl | L,.l14 to_ out h=>by kernel_rfl
end
end Go.Ev
end

section
open Go
namespace Go.Ev
def ZP (t:List (El Za)) (i:Int):List Int:=listOf t.length (nextB t i)
def Zdp (t:List (El Za)) (i:Int):Bool:=flowOK t
theorem ZsE {t:List (El Za)} {i:Int} (h:¬(0≤i∧i < (t.length:Int))):listOf t.length (nextB t i)=[]:=by
 unfold listOf
 rw[List.map_eq_nil_iff,List.filter_eq_nil_iff]
 intro j _ hb
 unfold nextB at hb
 rw[Bool.and_eq_true] at hb
 have:=of_decide_eq_true hb.1
 exact h ⟨this.1,this.2.1⟩
theorem ZAR (t:List (El Za)) (i:Int) (hk:Zdp t i=true):Goes (Zee t i) (Zmb t i) (ZP t i):=by
 have hlen:=ZeF hk
 unfold Zmb ZP
 rw[Zf]
 by_cases h0:i < 0
 ·rw[if_pos (decide_eq_true h0),ZsE (fun h=>by omega)];exact .leaf
 rw[if_neg (by simpa using h0),Zf]
 obtain ⟨j,rfl⟩:=Int.eq_ofNat_of_zero_le (show 0≤i by omega)
 by_cases h1:(t.length:Int)≤(j:Int)
 ·rw[if_pos (decide_eq_true (show (j:Int)≥Int.ofNat t.length from h1)),ZsE (fun h=>by omega)];exact .leaf
 have hj:j < t.length:=by omega
 rw[if_neg (by simp;omega),Zf,if_pos (ZaP hj),Zf,Int.toNat_natCast]
 rw[←ZBr hj]
 have hmem:t.getD j (dflt Za)∈t:=by rw[Z4 hj];exact List.getElem_mem hj
 have kl:Zb9 (t.getD j (dflt Za))=true:=ZCh (Zry hk hmem)
 have kf:Zgp t (t.getD j (dflt Za)).2.2.2.2.2.1=true:=ZAn hk
 have vf:Zas t (t.getD j (dflt Za)).2.2.2.2.2.1=findI (t.getD j (dflt Za)).2.2.2.2.2.1 t 0:=rfl
 rw[if_pos kl]
 have hw:IntKind.i64.wrap ((j:Int)+1)=(j:Int)+1:=by rw[wrap_i64 (by omega) (by omega)]
 have l14:∀(to:Int) (out:List Int) (h:Bool),out.length≤3→Goes (Zee t (j:Int)) (.jmp (.l14 to out h)) (out++if h=true then [to] else []):=by
  intro to out h ho
  rw[Zn,Zee,Zf]
  cases h with
  | true=>
   rw[if_pos rfl,Zf,if_pos (Nat.ble_eq_true_of_le (by unfold limit;omega)),if_pos rfl];exact .leaf
  | false=>rw[if_neg (by decide),if_neg (by decide),List.append_nil];exact .leaf
 have last:∀(out:List Int) (x:Int),out.length≤1→(decide ((0:Int)≤IntKind.i64.wrap (Int.ofNat (out++[x]).length - 1))&&decide (IntKind.i64.wrap (Int.ofNat (out++[x]).length - 1) < Int.ofNat (out++[x]).length))=true∧List.getD (out++[x]) (IntKind.i64.wrap (Int.ofNat (out++[x]).length - 1)).toNat (dflt (.int .i64))=x:=by
  intro out x ho
  have e:IntKind.i64.wrap (Int.ofNat (out++[x]).length - 1)=(out.length:Int):=by
   rw[List.length_append,List.length_singleton,wrap_i64 (by simp <;> omega) (by simp <;> omega)]
   simp
  rw[e]
  refine ⟨by simp;omega,?_⟩
  rw[Int.toNat_natCast]
  simp[List.getD]
 have l12:∀(to:Int) (h:Bool), -1≤to→(h=true→(j:Int)+1 < t.length)→Goes (Zee t (j:Int)) (.jmp (.l12 to (if 0≤to∧to≤(j:Int) then [to] else []) h)) (nextL t.length h to (j:Int)):=by
  intro to h hto hh
  rw[Zn,Zee]
  unfold nextL
  generalize hout:(if 0≤to∧to≤(j:Int) then [to] else [])=out
  have hol:out.length≤1:=by rw[←hout];split <;> simp
  rw[Zf]
  cases h with
  | true=>
   rw[if_pos rfl,Zf,if_pos (Nat.ble_eq_true_of_le (by unfold limit;omega)),Zf,hw]
   have hin:=hh rfl
   obtain ⟨b1,b2⟩:=last out ((j:Int)+1) hol
   rw[if_pos (show true=true∧(j:Int)+1 < (t.length:Int) from ⟨rfl,hin⟩)]
   by_cases hgt:to > (j:Int)
   ·rw[if_pos (decide_eq_true hgt),Zf,if_neg (by simp;omega),Zf,if_pos b1,b2]
    have:=l14 to (out++[(j:Int)+1]) ((j:Int)+1 !=to) (by simp;omega)
    rw[List.append_assoc] at this
    by_cases he:to=(j:Int)+1
    ·rw[if_neg (by simp[he]),List.append_nil] at this
     rw[if_neg (fun h=>h.2 ⟨rfl,hin,he⟩),List.append_nil]
     exact this
    ·rw[if_pos (by simp;omega)] at this
     rw[if_pos ⟨hgt,fun h=>he h.2.2⟩]
     exact this
   ·rw[if_neg (by simpa using hgt),if_neg (fun h=>hgt h.1),List.append_nil]
    have:=l14 to (out++[(j:Int)+1]) false (by simp;omega)
    rwa[if_neg (by decide),List.append_nil] at this
  | false=>
   rw[if_neg (by decide),Zf,if_neg (c:=false=true∧(j:Int)+1 < (t.length:Int)) (fun h=>by cases h.1),List.nil_append]
   by_cases hgt:to > (j:Int)
   ·have he:out=[]:=by rw[←hout,if_neg (fun h=>by omega)]
    subst he
    rw[if_pos (decide_eq_true hgt),Zf,if_pos (show (Int.ofNat ([]:List Int).length==0)=true from rfl),if_pos ⟨hgt,fun h=>by cases h.1⟩]
    have:=l14 to [] true (by simp)
    rwa[if_pos rfl] at this
   ·rw[if_neg (by simpa using hgt),if_neg (fun h=>hgt h.1),List.append_nil]
    have:=l14 to out false (by omega)
    rwa[if_neg (by decide),List.append_nil] at this
 have key:∀(on:Bool) (to:Int),nextL t.length (bif on then decide ((j:Int)+1 < Int.ofNat t.length) else false) to (j:Int)=nextL t.length on to (j:Int):=by
  intro on to
  cases on with
  | false=>rfl
  | true=>
   show nextL t.length (decide ((j:Int)+1 < Int.ofNat t.length)) to (j:Int)=nextL t.length true to (j:Int)
   by_cases hin:(j:Int)+1 < (t.length:Int)
   ·rw[decide_eq_true (show (j:Int)+1 < Int.ofNat t.length from hin)]
   ·rw[decide_eq_false (show ¬(j:Int)+1 < Int.ofNat t.length from hin)]
    unfold nextL
    rw[if_neg (c:=false=true∧(j:Int)+1 < (t.length:Int)) (fun h=>by cases h.1),if_neg (c:=true=true∧(j:Int)+1 < (t.length:Int)) (fun h=>hin h.2)]
    by_cases hgt:to > (j:Int)
    ·rw[if_pos (c:=to > (j:Int)∧¬(false=true∧(j:Int)+1 < (t.length:Int)∧to=(j:Int)+1)) ⟨hgt,fun h=>by cases h.1⟩,if_pos (c:=to > (j:Int)∧¬(true=true∧(j:Int)+1 < (t.length:Int)∧to=(j:Int)+1)) ⟨hgt,fun h=>hin h.2.1⟩]
    ·rw[if_neg (c:=to > (j:Int)∧¬(false=true∧(j:Int)+1 < (t.length:Int)∧to=(j:Int)+1)) (fun h=>hgt h.1),if_neg (c:=to > (j:Int)∧¬(true=true∧(j:Int)+1 < (t.length:Int)∧to=(j:Int)+1)) (fun h=>hgt h.1)]
 have both:∀(on:Bool) (to:Int) (out:List Int), -1≤to→out=(if 0≤to∧to≤(j:Int) then [to] else [])→Goes (Zee t (j:Int)) (.br on (.jmp (.l12 to out (decide (IntKind.i64.wrap ((j:Int)+1) < Int.ofNat t.length)))) (.jmp (.l12 to out false))) (nextL t.length on to (j:Int)):=by
  intro on to out hto hout
  subst hout
  rw[Zf,←key,hw]
  cases on with
  | true=>
   rw[if_pos rfl,cond_true]
   exact l12 to _ hto fun h=>of_decide_eq_true h
  | false=>
   rw[if_neg (by decide),cond_false]
   exact l12 to _ hto fun h=>by cases h
 have hr:= @ZCq t j
 rw[Zf]
 unfold onOf
 by_cases hjmp:(ZaR (t.getD j (dflt Za))).2=true
 ·have hto:toOf t j=findI (t.getD j (dflt Za)).2.2.2.2.2.1 t 0:=by unfold toOf;rw[if_pos hjmp]
  rw[hto] at hr
  rw[if_pos hjmp,Zf,if_pos (ZaP hj),Zf,if_pos kf,Zf,vf,hto]
  generalize findI (t.getD j (dflt Za)).2.2.2.2.2.1 t 0=to at hr
  by_cases h2:to≥0
  ·rw[if_pos (decide_eq_true h2),Zf]
   by_cases h3:to≤(j:Int)
   ·rw[if_pos (decide_eq_true h3)]
    exact both _ to _ hr.1 (by rw[if_pos ⟨h2,h3⟩])
   ·rw[if_neg (by simpa using h3)]
    exact both _ to _ hr.1 (by rw[if_neg (fun h=>h3 h.2)])
  ·rw[if_neg (by simpa using h2)]
   exact both _ to _ hr.1 (by rw[if_neg (fun h=>h2 h.1)])
 ·have hto:toOf t j= -1:=by unfold toOf;rw[if_neg hjmp]
  rw[if_neg hjmp,hto]
  exact both _ (-1) _ (by omega) (by rw[if_neg (fun h=>by omega)])
end Go.Ev
end

section
open Go Go.Ev
namespace Go.Ev
noncomputable section
noncomputable def Zos:Run:=entG ZeM Zle (fun a=>Zdp a.1 a.2.1) (fun a=>ZP a.1 a.2.1)
theorem ZqG:EntOK Go.Proofs.Tryz.prog 33 Zos:=Zao (tb:=Zls) (c:=ZkV) Zy8 (by kernel_rfl) (by kernel_rfl) (by kernel_rfl) (fun a=>by kernel_rfl) fun ⟨t,i,_⟩ hk=>Zp (c:=ZkV) (K:=fun v=>(Zle v,tps (toForms ZeM (t,i,())))) (S:=Zeh t i) (by kernel_rfl) (Zzt t i) (Zzr t i) (ZAR t i hk)
end
end Go.Ev
end

section
open Go Go.Ev
namespace Go.Ev
noncomputable section
noncomputable def Zmr:Tbl:=[]
theorem Zrc:∀p∈Zmr,EntOK Go.Proofs.Tryz.prog p.1 p.2:=Zu
noncomputable def Zs8:Code:=Go.Proofs.Tryz.f35.body.getD .skip
noncomputable def ZhR:Run:=entE Go.Proofs.Tryz.prog Zmr Go.Proofs.Tryz.f35 Zs8
theorem Zlo:EntOK Go.Proofs.Tryz.prog 35 ZhR:=ZAu Zrc (by kernel_rfl) (by kernel_rfl) (by kernel_rfl) (fun xs=>by kernel_rfl)
end
end Go.Ev
end

section
open Go Go.Ev
namespace Go.Ev
noncomputable section
def Zhx:PSig:=[.obj 78 [(.d (.int .i64)),(.m (.int .i64) (.int .u64))],.dat false (.int .i64)]
noncomputable def Zjw:Tbl:=[(35,ZhR)]
theorem ZsN:∀p∈Zjw,EntOK Go.Proofs.Tryz.prog p.1 p.2:=Zi Zlo (Zu)
noncomputable def Zd6:Code:=Go.Proofs.Tryz.f17.body.getD .skip
def Zhq:Tb:=[]
def ZnH (s:Int×List (Int×Int)) (i:Int):Empty→JT Empty (Bool×Int×List (Int×Int)):=fun j=>nomatch j
def ZhO (s:Int×List (Int×Int)) (i:Int):JT Empty (Bool×Int×List (Int×Int)):=.br (decide (i≥(0:Int))) (.br (decide (i < s.1)) (.br (decide ((IntKind.u64.wrap (Int.tmod i (64:Int))) < (0:Int))) (.no) (.leaf (((bitAnd IntKind.u64 (Int.fdiv (Option.getD (mget (kt:=(.int .i64)) (IntKind.i64.wrap (Int.tdiv i (64:Int))) s.2) (0:Int)) (2 ^ (min (Int.toNat (IntKind.u64.wrap (Int.tmod i (64:Int)))) (IntKind.u64).bits))) (1:Int))==(1:Int)),s))) (.leaf (false,s))) (.leaf (false,s))
def ZdW:Bool×Int×List (Int×Int)→Ans:=fun (r:Bool×Int×List (Int×Int))=>(.d .bool r.1,[.bx 78 [.d (.int .i64) r.2.1,.mv (.int .i64) (.int .u64) r.2.2],.top])
def ZbO (s:Int×List (Int×Int)) (i:Int):Empty→Nat×St:=fun j=>nomatch j
theorem Zsy (s:Int×List (Int×Int)) (i:Int) (L:Lt):entryA Go.Proofs.Tryz.prog (clOf Zjw) Zhq Go.Proofs.Tryz.f17 Zd6 L (toPs Zhx (s,i,()))=(ZhO s i).run (fun v=>some (ZdW v)) fun j=>L (ZbO s i j).1 (ZbO s i j).2:=by kernel_rfl
theorem ZsH (s:Int×List (Int×Int)) (i:Int):∀(L:Lt) (j:Empty),procOf (procsF Go.Proofs.Tryz.prog (clOf Zjw) Zhq Go.Proofs.Tryz.f17 Zd6 (toPs Zhx (s,i,()))) (ZbO s i j).1 L (ZbO s i j).2=(ZnH s i j).run (fun v=>some (ZdW v)) fun j=>L (ZbO s i j).1 (ZbO s i j).2:=fun L j=>nomatch j
end
end Go.Ev
end

section
open Go
namespace Go.Ev
def Zk (s:Int×List (Int×Int)) (i:Int):Bool×Int×List (Int×Int):=(hasS s i,s)
theorem Zt5 (s:Int×List (Int×Int)) (i:Int):Goes (ZnH s i) (ZhO s i) (Zk s i):=by
 unfold ZhO Zk hasS
 rw[Zf]
 by_cases h0:i≥0
 ·rw[if_pos (decide_eq_true h0),Zf,decide_eq_true h0,Bool.true_and]
  by_cases h1:i < s.1
  ·rw[if_pos (decide_eq_true h1),Zf,if_neg (by rw[ZqC];decide),decide_eq_true h1,Bool.true_and]
   exact .leaf
  ·rw[if_neg (by simpa using h1),decide_eq_false h1,Bool.false_and]
   exact .leaf
 ·rw[if_neg (by simpa using h0),decide_eq_false h0,Bool.false_and]
  exact .leaf
end Go.Ev
end

section
open Go Go.Ev
namespace Go.Ev
noncomputable section
noncomputable def ZdV:Run:=entO Zhx ZdW (fun a=>true) (fun a=>Zk a.1 a.2.1)
theorem Zdg:EntOK Go.Proofs.Tryz.prog 17 ZdV:=ZAL (tb:=Zhq) (c:=Zd6) (Zrp (Zpn (fn:=Go.Proofs.Tryz.f17) (c:=Zd6) (by kernel_rfl) (by kernel_rfl) (by kernel_rfl))) ZsN (by kernel_rfl) (by kernel_rfl) (fun a=>by kernel_rfl) fun ⟨s,i,_⟩ hk=>Zp (c:=Zd6) (K:=ZdW) (S:=ZbO s i) (by kernel_rfl) (Zsy s i) (ZsH s i) (Zt5 s i)
end
end Go.Ev
end

section
open Go Go.Ev
namespace Go.Ev
noncomputable section
def ZhK:PSig:=[.obj 78 [(.d (.int .i64)),(.m (.int .i64) (.int .u64))],.dat false (.int .i64)]
noncomputable def Zi5:Tbl:=[(35,ZhR),(17,ZdV)]
theorem ZrE:∀p∈Zi5,EntOK Go.Proofs.Tryz.prog p.1 p.2:=Zi Zlo (Zi Zdg (Zu))
noncomputable def Zd4:Code:=Go.Proofs.Tryz.f16.body.getD .skip
def ZhI:Tb:=[]
def Znm (s:Int×List (Int×Int)) (i:Int):Empty→JT Empty (Bool×Int×List (Int×Int)):=fun j=>nomatch j
def Zhr (s:Int×List (Int×Int)) (i:Int):JT Empty (Bool×Int×List (Int×Int)):=.br (decide (i < (0:Int))) (.leaf (false,s)) (.br (decide (i≥s.1)) (.leaf (false,s)) (.br (Zk s i).1 (.leaf (false,(Zk s i).2)) (.br (decide ((IntKind.u64.wrap (Int.tmod i (64:Int))) < (0:Int))) (.no) (.leaf (true,((Zk s i).2.1,(mput (kt:=(.int .i64)) (IntKind.i64.wrap (Int.tdiv i (64:Int))) (bitOr IntKind.u64 (Option.getD (mget (kt:=(.int .i64)) (IntKind.i64.wrap (Int.tdiv i (64:Int))) (Zk s i).2.2) (0:Int)) (IntKind.u64.wrap ((1:Int)*(2 ^ (min (Int.toNat (IntKind.u64.wrap (Int.tmod i (64:Int)))) (IntKind.u64).bits))))) (Zk s i).2.2)))))))
def ZdU:Bool×Int×List (Int×Int)→Ans:=fun (r:Bool×Int×List (Int×Int))=>(.d .bool r.1,[.bx 78 [.d (.int .i64) r.2.1,.mv (.int .i64) (.int .u64) r.2.2],.top])
def ZbB (s:Int×List (Int×Int)) (i:Int):Empty→Nat×St:=fun j=>nomatch j
theorem Ztb (s:Int×List (Int×Int)) (i:Int) (L:Lt):entryA Go.Proofs.Tryz.prog (clOf Zi5) ZhI Go.Proofs.Tryz.f16 Zd4 L (toPs ZhK (s,i,()))=(Zhr s i).run (fun v=>some (ZdU v)) fun j=>L (ZbB s i j).1 (ZbB s i j).2:=by kernel_rfl
theorem Zr6 (s:Int×List (Int×Int)) (i:Int):∀(L:Lt) (j:Empty),procOf (procsF Go.Proofs.Tryz.prog (clOf Zi5) ZhI Go.Proofs.Tryz.f16 Zd4 (toPs ZhK (s,i,()))) (ZbB s i j).1 L (ZbB s i j).2=(Znm s i j).run (fun v=>some (ZdU v)) fun j=>L (ZbB s i j).1 (ZbB s i j).2:=fun L j=>nomatch j
end
end Go.Ev
end

section
open Go
namespace Go.Ev
def Zl (s:Int×List (Int×Int)) (i:Int):Bool×Int×List (Int×Int):=putS s i
theorem Ztt (s:Int×List (Int×Int)) (i:Int):Goes (Znm s i) (Zhr s i) (Zl s i):=by
 unfold Zhr Zl putS
 simp only[Zk]
 rw[Zf]
 by_cases h0:i < 0
 ·rw[if_pos (decide_eq_true h0),if_pos (.inl h0)];exact .leaf
 ·rw[if_neg (by simpa using h0),Zf]
  by_cases h1:i≥s.1
  ·rw[if_pos (decide_eq_true h1),if_pos (.inr (.inl h1))];exact .leaf
  ·rw[if_neg (by simpa using h1),Zf]
   by_cases h2:hasS s i=true
   ·rw[if_pos h2,if_pos (.inr (.inr h2))];exact .leaf
   ·rw[if_neg h2,Zf,if_neg (by rw[ZqC];decide),if_neg (by intro h;rcases h with h | h | h <;> first | exact h0 h | exact h1 h | exact h2 h)]
    exact .leaf
end Go.Ev
end

section
open Go Go.Ev
namespace Go.Ev
noncomputable section
noncomputable def ZbJ:Run:=entO ZhK ZdU (fun a=>true) (fun a=>Zl a.1 a.2.1)
theorem Zbj:EntOK Go.Proofs.Tryz.prog 16 ZbJ:=ZAL (tb:=ZhI) (c:=Zd4) (Zrp (Zpn (fn:=Go.Proofs.Tryz.f16) (c:=Zd4) (by kernel_rfl) (by kernel_rfl) (by kernel_rfl))) ZrE (by kernel_rfl) (by kernel_rfl) (fun a=>by kernel_rfl) fun ⟨s,i,_⟩ hk=>Zp (c:=Zd4) (K:=ZdU) (S:=ZbB s i) (by kernel_rfl) (Ztb s i) (Zr6 s i) (Ztt s i)
end
end Go.Ev
end

section
open Go Go.Ev
namespace Go.Ev
noncomputable section
def ZcT:PSig:=[.obj 78 [(.d (.int .i64)),(.m (.int .i64) (.int .u64))]]
noncomputable def ZjP:Tbl:=[]
noncomputable def ZfF:Code:=match Go.Proofs.Tryz.f34.body with | some (.seq _ (.seq _ (.seq _ (.seq _ (.seq _ d)))))=>d | _=>.skip
def ZaI:Tb:=[(2,⟨[0,4,26,27,28],[(5,110)]⟩),(8,⟨[0,4,7,8,26,27,28],[(5,110)]⟩)]
inductive ZbU where | l2 (h:Int) (h1:List Int) (h2:Int) (out:List Int) | l8 (k:Int) (h:Int) (h1:List Int) (i:Int) (out:List Int) (h2:Int)
def Zan (s:Int×List (Int×Int)) (places:List Int):ZbU→JT ZbU ((List Int)×Int×List (Int×Int)) |.l2 h h1 h2 out=>.br (decide (h2 < h)) (.br ((decide ((0:Int)≤h2))&&(decide (h2 < (Int.ofNat (List.length h1))))) (.jmp (.l8 (List.getD h1 (Int.toNat h2) (dflt (.int .i64))) h h1 (0:Int) out h2)) (.no)) (.leaf (out,s)) |.l8 k h h1 i out h2=>.br (decide (i < (64:Int))) (.br (decide ((IntKind.u64.wrap i) < (0:Int))) (.no) (.br ((bitAnd IntKind.u64 (Int.fdiv (Option.getD (mget (kt:=(.int .i64)) k s.2) (0:Int)) (2 ^ (min (Int.toNat (IntKind.u64.wrap i)) (IntKind.u64).bits))) (1:Int))==(1:Int)) (.br (Nat.ble (((List.length out)+1)*8) limit) (.jmp (.l8 k h h1 (IntKind.i64.wrap (i+(1:Int))) (out++[(IntKind.i64.wrap ((IntKind.i64.wrap (k*(64:Int)))+i))]) h2)) (.no)) (.jmp (.l8 k h h1 (IntKind.i64.wrap (i+(1:Int))) out h2)))) (.jmp (.l2 h h1 (IntKind.i64.wrap (h2+(1:Int))) out))
def Zfv (s:Int×List (Int×Int)) (places:List Int):JT ZbU ((List Int)×Int×List (Int×Int)):=.jmp (.l2 (Int.ofNat (List.length places)) places (0:Int) [])
def ZfE:(List Int)×Int×List (Int×Int)→Ans:=fun (r:(List Int)×Int×List (Int×Int))=>(.rw 3 (.int .i64) r.1,[.bx 78 [.d (.int .i64) r.2.1,.mv (.int .i64) (.int .u64) r.2.2]])
def Zba (s:Int×List (Int×Int)) (places:List Int):ZbU→Nat×St |.l2 h h1 h2 out=>(2,⟨mkTm 56 [(0,.pt 1 0 0),(4,.own 5 0 none),(26,.own 27 0 none),(27,.d (.int .i64) h),(28,.d (.int .i64) h2)],[(1,0,.box 78 [.d (.int .i64) s.1,.mp 1026 0] (some 0)),(5,0,.row 3 (.int .i64) out false),(27,0,.row 3 (.int .i64) h1 false),(1026,0,.map (.int .i64) (.int .u64) s.2)]⟩) |.l8 k h h1 i out h2=>(8,⟨mkTm 56 [(0,.pt 1 0 0),(4,.own 5 0 none),(7,.d (.int .i64) k),(8,.d (.int .i64) i),(26,.own 27 0 none),(27,.d (.int .i64) h),(28,.d (.int .i64) h2)],[(1,0,.box 78 [.d (.int .i64) s.1,.mp 1026 0] (some 0)),(5,0,.row 3 (.int .i64) out false),(27,0,.row 3 (.int .i64) h1 false),(1026,0,.map (.int .i64) (.int .u64) s.2)]⟩)
def ZcU (s:Int×List (Int×Int)) (places:List Int):St:=⟨mkTm 56 [(0,.pt 1 0 0),(3,.own 4 0 none),(4,.nil)],[(1,0,.box 78 [.d (.int .i64) s.1,.mp 1026 0] (some 0)),(4,0,.row 3 (.int .i64) places false),(1026,0,.map (.int .i64) (.int .u64) s.2)]⟩
theorem Zo7 (s:Int×List (Int×Int)) (places:List Int) (L:Lt):evC Go.Proofs.Tryz.prog (clOf ZjP) ZaI L ZfF 0 (finA Go.Proofs.Tryz.prog ZaI Go.Proofs.Tryz.f34 (toPs ZcT (s,()))) (fun _ _=>none) (finA Go.Proofs.Tryz.prog ZaI Go.Proofs.Tryz.f34 (toPs ZcT (s,()))) (ZcU s places)=(Zfv s places).run (fun v=>some (ZfE v)) fun j=>L (Zba s places j).1 (Zba s places j).2:=by kernel_rfl
noncomputable def ZiO (s:Int×List (Int×Int)) (places:List Int):List (Nat×(Lt→Kt)):=procs Go.Proofs.Tryz.prog (clOf ZjP) ZaI ZfF 0 (fun _=>(finA Go.Proofs.Tryz.prog ZaI Go.Proofs.Tryz.f34 (toPs ZcT (s,())))) (fun _ _ _=>none) (fun _=>(finA Go.Proofs.Tryz.prog ZaI Go.Proofs.Tryz.f34 (toPs ZcT (s,()))))
theorem ZoS (s:Int×List (Int×Int)) (places:List Int):∀(L:Lt) (j:ZbU),procOf (ZiO s places) (Zba s places j).1 L (Zba s places j).2=(Zan s places j).run (fun v=>some (ZfE v)) fun j=>L (Zba s places j).1 (Zba s places j).2 | L,.l2 h h1 h2 out=>by kernel_rfl | L,.l8 k h h1 i out h2=>by kernel_rfl
end
end Go.Ev
end

section
open Go
namespace Go.Ev
theorem Zp7 (s:Int×List (Int×Int)) (places:List Int) (hk:Nat.ble (places.length*512) limit=true):Goes (Zan s places) (Zfv s places) (listAt s.2 places,s):=by
 have hlim:places.length*512≤limit:=Nat.le_of_ble_eq_true hk
 have hn:places.length < 4611686018427387904:=by unfold limit at hlim;omega
 have inner:∀(k:Int) (j:Nat),j < places.length→∀(i:Nat),i≤64→∀(out:List Int) r,(out.length+(64 - i))*8≤limit→
   Goes (Zan s places) (.jmp (.l2 (Int.ofNat (List.length places)) places ((j+1:Nat):Int) (out++wordList s.2 k i (64 - i)))) r→
   Goes (Zan s places) (.jmp (.l8 k (Int.ofNat (List.length places)) places (i:Int) out (j:Int))) r:=by
  intro k j hj
  refine down ?_ fun i hi ih=>?_
  ·intro out r _ h
   rw[Zn]
   have e:decide (((64:Nat):Int) < (64:Int))=false:=by decide
   simp only[Zan,Zf,e,Bool.false_eq_true,if_false,Zz (k:=j) (by omega)]
   simpa[wordList] using h
  ·intro out r hl h
   rw[Zn]
   have e:decide ((i:Int) < (64:Int))=true:=decide_eq_true (by omega)
   have hw:=Zn0 hi
   have e2:decide ((i:Int) < (0:Int))=false:=decide_eq_false (by omega)
   have hcons:wordList s.2 k i (64 - i)=(if bitE (wordAt s.2 k) (i:Nat) then [numE k (i:Nat)] else [])++wordList s.2 k (i+1) (64 - (i+1)):=by
    unfold wordList
    rw[show 64 - i=(64 - (i+1))+1 by omega,List.range'_succ,List.filter_cons]
    split <;> simp
   rw[hcons] at h
   have hb:((bitAnd IntKind.u64 (Int.fdiv (Option.getD (mget (kt:=(.int .i64)) k s.2) (0:Int)) (2 ^ (min (Int.toNat (IntKind.u64.wrap (i:Int))) (IntKind.u64).bits))) (1:Int))==(1:Int))=bitE (wordAt s.2 k) (i:Nat):=rfl
   unfold Zan
   rw[Zf,if_pos e,Zf,if_neg (by rw[hw,e2];decide),Zf,hb,Zz (k:=i) (by omega)]
   by_cases hbit:bitE (wordAt s.2 k) (i:Nat)=true
   ·rw[if_pos hbit]
    rw[if_pos hbit] at h
    rw[Zf,if_pos (Nat.ble_eq_true_of_le (by omega))]
    refine ih (out++[numE k (i:Nat)]) r (by simp;omega) ?_
    simpa using h
   ·rw[if_neg hbit]
    rw[if_neg hbit,List.nil_append] at h
    exact ih out r (by omega) h
 have outer:∀j,j≤places.length→∀out:List Int,(out.length+(places.length - j)*64)*8≤limit→
   Goes (Zan s places) (.jmp (.l2 (Int.ofNat (List.length places)) places (j:Int) out)) (out++listAt s.2 (places.drop j),s):=by
  refine down ?_ fun j hj ih=>?_
  ·intro out _
   rw[Zn]
   simp only[Zan,Zf,ZW (Nat.lt_irrefl _),List.drop_length,Bool.false_eq_true,if_false]
   rw[show out++listAt s.2 []=out by simp[listAt]]
   exact .leaf
  ·intro out hl
   rw[Zn,Z3 hj]
   simp only[Zan,Zf,ZaK hj,nng,Bool.and_self,if_true,Int.toNat_natCast,Z4 hj]
   have hwl:=Zsz s.2 places[j] 0 64
   refine inner places[j] j hj 0 (by omega) out _ (by omega) ?_
   have:=ih (out++wordList s.2 places[j] 0 64) (by rw[List.length_append];omega)
   rw[show out++listAt s.2 (places[j] :: places.drop (j+1))=(out++wordList s.2 places[j] 0 64)++listAt s.2 (places.drop (j+1)) by simp only[listAt,List.flatMap_cons,List.append_assoc]]
   exact this
 have:=outer 0 (Nat.zero_le _) [] (by simp;omega)
 simpa[Zfv] using this
end Go.Ev
end

section
open Go Go.Ev
namespace Go.Ev
def renSort:Go.Shelf.Ren:=⟨fun n=>if n=189 then 53 else if n=125 then 70 else if n=257 then 69 else if n=128 then 91 else if n=129 then 92 else if n=294 then 82 else if n=295 then 83 else if n=296 then 84 else if n=297 then 85 else if n=298 then 86 else if n=299 then 87 else if n=216 then 88 else if n=300 then 89 else if n=301 then 90 else if n=328 then 98 else if n=329 then 99 else if n=330 then 100 else if n=331 then 101 else if n=332 then 102 else if n=215 then 103 else if n=343 then 104 else n,
 fun n=>if n=28 then 55 else if n=46 then 82 else if n=51 then 143 else if n=53 then 81 else if n=183 then 136 else if n=182 then 135 else if n=131 then 111 else if n=218 then 146 else if n=222 then 150 else if n=228 then 156 else if n=229 then 119 else n,
 fun n=>n⟩
theorem Zq0:Go.Proofs.Lays.n189 Go.Proofs.Tryz.prog renSort where
 mixed:=by kernel_rfl
 f125:=by kernel_rfl
 f128:=by kernel_rfl
 f129:=by kernel_rfl
 f189:=by kernel_rfl
 f215:=by kernel_rfl
 f216:=by kernel_rfl
 f257:=by kernel_rfl
 f294:=by kernel_rfl
 f295:=by kernel_rfl
 f296:=by kernel_rfl
 f297:=by kernel_rfl
 f298:=by kernel_rfl
 f299:=by kernel_rfl
 f300:=by kernel_rfl
 f301:=by kernel_rfl
 f328:=by kernel_rfl
 f329:=by kernel_rfl
 f330:=by kernel_rfl
 f331:=by kernel_rfl
 f332:=by kernel_rfl
 f343:=by kernel_rfl
 t0:=by kernel_rfl
 a0:=fun w=>by kernel_rfl
 z0:=fun w=>by kernel_rfl
 v0:=fun w=>by kernel_rfl
 t3:=by kernel_rfl
 a3:=fun w=>by kernel_rfl
 z3:=fun w=>by kernel_rfl
 v3:=fun w=>by kernel_rfl
 t4:=by kernel_rfl
 a4:=fun w=>by kernel_rfl
 z4:=fun w=>by kernel_rfl
 v4:=fun w=>by kernel_rfl
 t5:=by kernel_rfl
 a5:=fun w=>by kernel_rfl
 z5:=fun w=>by kernel_rfl
 v5:=fun w=>by kernel_rfl
 t9:=by kernel_rfl
 a9:=fun w=>by kernel_rfl
 z9:=fun w=>by kernel_rfl
 v9:=fun w=>by kernel_rfl
 t28:=by kernel_rfl
 a28:=fun w=>by kernel_rfl
 z28:=fun w=>by kernel_rfl
 v28:=fun w=>by kernel_rfl
 t46:=by kernel_rfl
 a46:=fun w=>by kernel_rfl
 z46:=fun w=>by kernel_rfl
 v46:=fun w=>by kernel_rfl
 t51:=by kernel_rfl
 a51:=fun w=>by kernel_rfl
 z51:=fun w=>by kernel_rfl
 v51:=fun w=>by kernel_rfl
 t53:=by kernel_rfl
 a53:=fun w=>by kernel_rfl
 z53:=fun w=>by kernel_rfl
 v53:=fun w=>by kernel_rfl
 t131:=by kernel_rfl
 a131:=fun w=>by kernel_rfl
 z131:=fun w=>by kernel_rfl
 v131:=fun w=>by kernel_rfl
 t182:=by kernel_rfl
 a182:=fun w=>by kernel_rfl
 z182:=fun w=>by kernel_rfl
 v182:=fun w=>by kernel_rfl
 t183:=by kernel_rfl
 a183:=fun w=>by kernel_rfl
 z183:=fun w=>by kernel_rfl
 v183:=fun w=>by kernel_rfl
 t218:=by kernel_rfl
 a218:=fun w=>by kernel_rfl
 z218:=fun w=>by kernel_rfl
 v218:=fun w=>by kernel_rfl
 t222:=by kernel_rfl
 a222:=fun w=>by kernel_rfl
 z222:=fun w=>by kernel_rfl
 v222:=fun w=>by kernel_rfl
 t228:=by kernel_rfl
 a228:=fun w=>by kernel_rfl
 z228:=fun w=>by kernel_rfl
 v228:=fun w=>by kernel_rfl
 t229:=by kernel_rfl
 a229:=fun w=>by kernel_rfl
 z229:=fun w=>by kernel_rfl
 v229:=fun w=>by kernel_rfl
theorem sortOK:SortOK Go.Proofs.Tryz.prog 53:=⟨fun blk off cap zs w h1 h2 h3=>Go.Proofs.Any.slices_Sort_int Zq0 blk off cap zs w h1 h2 h3,fun p cap w=>Go.Proofs.Any.slices_Sort_int_none Zq0 p cap w⟩
end Go.Ev
end

section
open Go Go.Ev
namespace Go.Ev
def Zlp:PSig:=[.obj 78 [(.d (.int .i64)),(.m (.int .i64) (.int .u64))]]
def ZaY (s:Int×List (Int×Int)):(List Int)×Int×List (Int×Int):=(listS s,s)
def ZaH (s:Int×List (Int×Int)):Bool:=Nat.ble (s.2.length*512) limit
def ZlG:(List Int)×Int×List (Int×Int)→Ans:=ZfE
section
abbrev SetL:=List (El (.int .i64)×El (.int .u64))
noncomputable def setListBody:Code:=Go.Proofs.Tryz.f34.body.getD .skip
noncomputable def setListR:Code:=fstC (sndC (sndC (sndC setListBody)))
noncomputable def setListX:RangeText:=rangeText (sndC setListR)
noncomputable def setListSort:Code:=fstC (sndC (sndC (sndC (sndC setListBody))))
def setLab1:Lab:=⟨[0,3,4],[]⟩
def setLab2:Lab:=⟨[0,3,4,15],[(4,110)]⟩
def setObs (s:Int×SetL) (ps:List (El (.int .i64))):List (Id×Nat×Obj):=[(1,0,.box 78 [.d (.int .i64) s.1,.mp 1026 0] (some 0)),(4,0,.row 3 (.int .i64) ps false),(1026,0,.gone (some 1000))]
def setK (s:Int×SetL) (v:Value) (ps:List (El (.int .i64))):St:=⟨mkTm 56 [(0,.pt 1 0 0),(3,.own 4 0 none),(4,.nil),(15,.cst v)],setObs s ps⟩
def setI (s:Int×SetL) (v:Value) (done:SetL):St:=setK s v (done.map Prod.fst)
def setT (s:Int×SetL) (v:Value) (done:SetL) (e:El (.int .i64)×El (.int .u64)):St:=((setI s v done).put (some 16) (.tu [mkB true,.d (.int .i64) e.1,.d (.int .u64) e.2])).put (some 17) (mkB true)
def setU (s:Int×SetL) (v:Value) (done:SetL) (e:El (.int .i64)×El (.int .u64)):St:=(((setT s v done e).put (some 18) (.tu [.d (.int .i64) e.1,.d (.int .u64) e.2])).put (some 19) (.d (.int .i64) e.1)).put (some 5) (.d (.int .i64) e.1)
def setE (s:Int×SetL) (v:Value) (done:SetL):St:=((setI s v done).put (some 16) (.tu [mkB false])).put (some 17) (mkB false)
def setA (s:Int×SetL):St:=⟨mkTm 56 [(0,.pt 1 0 0)],[(1,0,.box 78 [.d (.int .i64) s.1,.mp 1026 0] (some 0)),(1026,0,.map (.int .i64) (.int .u64) s.2)]⟩
def setC (s:Int×SetL):St:=⟨mkTm 56 [(0,.pt 1 0 0),(3,.nil),(4,.nil)],[(1,0,.box 78 [.d (.int .i64) s.1,.mp 1026 0] (some 0)),(1026,0,.map (.int .i64) (.int .u64) s.2)]⟩
def setM (s:Int×SetL):St:=((((setC s).put (some 11) (.pt 1 0 0)).put (some 12) (.pt 1 0 0)).put (some 13) (.pt 1 0 1)).put (some 14) (.mp 1026 0)
theorem ZAh:setListX.OK:=⟨by kernel_rfl,by kernel_rfl,by kernel_rfl,by kernel_rfl,by kernel_rfl,by kernel_rfl,by kernel_rfl,by kernel_rfl,by kernel_rfl⟩
theorem ZwF (s:Int×SetL) (v:Value) (done:SetL) (e:El (.int .i64)×El (.int .u64)) (L:Lt) (k:Kt) (x:Nat→Kt) (r:Kt):
  evC Go.Proofs.Tryz.prog (clOf []) [] L setListX.cr 0 (fun t=>k (norm Go.Proofs.Tryz.prog setLab2 t)) x r (setU s v done e)=bif Nat.ble (((done.map Prod.fst).length+1)*8) limit then k (setK s v (done.map Prod.fst++[e.1])) else none:=by kernel_rfl
theorem ZBX (s:Int×SetL) (hk:ZaH s=true):RangeEv Go.Proofs.Tryz.prog (clOf []) setListX s.2 setLab2 1026 1000 (setI s) (setE s) (setT s) (setU s) where
 it:=fun v done=>by kernel_rfl
 r1:=fun v done e k=>by kernel_rfl
 rt:=fun v done e=>by kernel_rfl
 re:=fun v done e=>by kernel_rfl
 r2:=fun v done e k=>by kernel_rfl
 r3:=fun v done e rest hp L k x r=>by
  have hl:=hp.length_eq
  simp only[List.length_append,List.length_cons] at hl
  have hlim:s.2.length*512≤limit:=Nat.le_of_ble_eq_true hk
  rw[ZwF,List.length_map,Nat.ble_eq_true_of_le (by omega),cond_true]
  unfold setI
  rw[List.map_append]
  rfl
 f1:=fun v done k=>by kernel_rfl
 ft:=fun v done=>by kernel_rfl
theorem ZyM:setListBody=.seq (fstC setListBody) (.seq (fstC (sndC setListBody)) (.seq (fstC (sndC (sndC setListBody))) (.seq (.seq (.region (ridC (fstC setListR)) (ropsC (fstC setListR)) false) setListX.code) (.seq (.region (ridC setListSort) (ropsC setListSort) false) ZfF)))):=by kernel_rfl
theorem ZCu (s:Int×SetL) (L:Lt) (k:Kt) (x:Nat→Kt) (r:Kt):evC Go.Proofs.Tryz.prog (clOf []) [] L (fstC setListBody) 0 (fun t=>k (norm Go.Proofs.Tryz.prog setLab1 t)) x r (setA s)=k (setA s):=by kernel_rfl
theorem ZDk (s:Int×SetL) (L:Lt) (k:Kt) (x:Nat→Kt) (r:Kt):evC Go.Proofs.Tryz.prog (clOf []) [] L (fstC (sndC setListBody)) 0 (fun t=>k (norm Go.Proofs.Tryz.prog setLab1 t)) x r (setA s)=k (setA s):=by kernel_rfl
theorem ZDl (s:Int×SetL) (L:Lt) (k:Kt) (x:Nat→Kt) (r:Kt):evC Go.Proofs.Tryz.prog (clOf []) [] L (fstC (sndC (sndC setListBody))) 0 (fun t=>k (norm Go.Proofs.Tryz.prog setLab1 t)) x r (setA s)=k (setC s):=by kernel_rfl
def mapKV (P:Program) (T:TypeId):TypeId×TypeId:=match P.underlying T with | some (.map K V)=>(K,V) | _=>(0,0)
theorem Znf (s:Int×SetL) (hk:ZaH s=true):CallOK Go.Proofs.Tryz.prog 34 (toPs Zlp (s,())) (ZlG (ZaY s)):=by
 obtain ⟨hcl,hdet⟩:=Zoq (P:=Go.Proofs.Tryz.prog) Zu
 have hlim:s.2.length*512≤limit:=Nat.le_of_ble_eq_true hk
 refine Zqv (tb:=ZaI) (fn:=Go.Proofs.Tryz.f34) (c:=setListBody) (vs:=[.pt 1 0 0]) (st:=⟨[],[(1,0,.box 78 [.d (.int .i64) s.1,.mp 1026 0] (some 0)),(1026,0,.map (.int .i64) (.int .u64) s.2)]⟩) (by kernel_rfl) (by kernel_rfl) (by kernel_rfl) ?_
 intro _ Mod F0 w0 a w hr
 have hr:Rel Mod F0 w0 (setA s) a w:=hr
 rw[ZyM]
 refine wp_seq (piece hcl hdet (norm Go.Proofs.Tryz.prog setLab1) (fun h=>Zah h) (ZCu s) hr fun a w hr=>?_)
 refine wp_seq (piece hcl hdet (norm Go.Proofs.Tryz.prog setLab1) (fun h=>Zah h) (ZDk s) hr fun a w hr=>?_)
 refine wp_seq (piece hcl hdet (norm Go.Proofs.Tryz.prog setLab1) (fun h=>Zah h) (ZDl s) hr fun a w hr=>?_)
 refine wp_seq (wp_seq (wp_region ?_))
 rw[show List.range (ropsC (fstC setListR)).size=[0,1,2,3,4] from by kernel_rfl]
 refine evOp hcl (o:=opC (fstC setListR) 0) (st1:=(setC s).put (some 11) (.pt 1 0 0)) (by kernel_rfl) (by kernel_rfl) (fun k=>by kernel_rfl) hr fun a w hr=>?_
 refine evOp hcl (o:=opC (fstC setListR) 1) (st1:=((setC s).put (some 11) (.pt 1 0 0)).put (some 12) (.pt 1 0 0)) (by kernel_rfl) (by kernel_rfl) (fun k=>by kernel_rfl) hr fun a w hr=>?_
 refine evOp hcl (o:=opC (fstC setListR) 2) (st1:=(((setC s).put (some 11) (.pt 1 0 0)).put (some 12) (.pt 1 0 0)).put (some 13) (.pt 1 0 1)) (by kernel_rfl) (by kernel_rfl) (fun k=>by kernel_rfl) hr fun a w hr=>?_
 refine evOp hcl (o:=opC (fstC setListR) 3) (st1:=setM s) (by kernel_rfl) (by kernel_rfl) (fun k=>by kernel_rfl) hr fun a w hr=>?_
 refine handOp (o:=opC (fstC setListR) 4) (by kernel_rfl) (by kernel_rfl) ?_
 refine rangeLoop (tm:=14) (idm0:=1026) (ver0:=0) (T:=(match (opC (fstC setListR) 4).op with |.range T _=>T | _=>0)) (K:=(mapKV Go.Proofs.Tryz.prog (match (opC (fstC setListR) 4).op with |.range T _=>T | _=>0)).1) (V:=(mapKV Go.Proofs.Tryz.prog (match (opC (fstC setListR) 4).op with |.range T _=>T | _=>0)).2)
  hcl hdet ZAh rfl rfl (ZBX s hk) (by kernel_rfl) (by kernel_rfl) (by kernel_rfl) (by kernel_rfl) (by kernel_rfl) (by kernel_rfl) (fun v=>by kernel_rfl) (fun v done=>by kernel_rfl) (fun v done=>by kernel_rfl) hr ?_
 intro v done a w hperm hr
 have hr:Rel Mod F0 w0 (ZcU s (done.map Prod.fst)) a w:=Zah (P:=Go.Proofs.Tryz.prog) (lab:=setLab1) hr
 refine wp_seq (wp_region ?_)
 rw[show List.range (ropsC setListSort).size=[0,1] from by kernel_rfl]
 refine evOp hcl (o:=opC setListSort 0) (st1:=(ZcU s (done.map Prod.fst)).put (some 24) (.own 4 0 none)) (by kernel_rfl) (by kernel_rfl) (fun k=>by kernel_rfl) hr fun a w hr=>?_
 refine handOp (o:=opC setListSort 1) (by kernel_rfl) (by kernel_rfl) ?_
 refine sortStep (ts:=24) (id:=4) (ver:=0) (E:=3) (l:=done.map Prod.fst) (c:=(match (opC setListSort 1).op with |.call c=>c | _=>default)) (fn:=Go.Proofs.Tryz.f53) (body:=Go.Proofs.Tryz.f53.body.getD .skip) (by kernel_rfl) (by kernel_rfl) (by kernel_rfl) (by kernel_rfl) (by kernel_rfl) (by kernel_rfl) (by kernel_rfl) (by kernel_rfl) sortOK (by
  rw[List.length_map,hperm.length_eq]
  unfold limit at hlim
  omega) hr fun a w hr=>?_
 have hr:Rel Mod F0 w0 (ZcU s (sorted (done.map Prod.fst))) a w:=Zah (P:=Go.Proofs.Tryz.prog) (lab:=setLab1) hr
 rw[ZAG (hperm.map Prod.fst)] at hr
 have hg:=Zp7 s (sorted (s.2.map Prod.fst)) (by rw[List.length_mergeSort,List.length_map];exact hk)
 exact tailStep hcl hdet (ps:=ZiO s (sorted (s.2.map Prod.fst))) rfl (by kernel_rfl) (Zo7 s _) (ZoS s _) hg hr
end
noncomputable def Zfl:Run:=entO Zlp ZlG (fun a=>ZaH a.1) (fun a=>ZaY a.1)
theorem Zgw:EntOK Go.Proofs.Tryz.prog 34 Zfl:=ZCV (Zrp (Zpn (fn:=Go.Proofs.Tryz.f34) (c:=setListBody) (by kernel_rfl) (by kernel_rfl) (by kernel_rfl))) fun a h=>Znf a.1 h
end Go.Ev
end

section
open Go Go.Ev
namespace Go.Ev
noncomputable section
def ZeW:Sig:=[(true,(.sl Za)),(false,(.int .i64))]
noncomputable def ZnY:Tbl:=[(14,Zhm),(33,Zos),(16,ZbJ),(34,Zfl)]
theorem ZyB:∀p∈ZnY,EntOK Go.Proofs.Tryz.prog p.1 p.2:=Zi ZhM (Zi ZqG (Zi Zbj (Zi Zgw (Zu))))
noncomputable def Zj6:Code:=Go.Proofs.Tryz.f15.body.getD .skip
def ZlT:Tb:=[(4,⟨[2,5,6],[(1000000000000000000000000000000000000000000000000000000000007,1)]⟩)]
inductive ZhB where | l4 (len:Nat) (seen:Int) (open_:List Int) (seen1:List (Int×Int))
def Zht (t:List (El Za)) (i:Int):ZhB→JT ZhB (List Int) |.l4 len seen open_ seen1=>.br (decide ((Int.ofNat len) > (0:Int))) (.br ((decide ((0:Int)≤(IntKind.i64.wrap ((Int.ofNat len) - (1:Int)))))&&(decide ((IntKind.i64.wrap ((Int.ofNat len) - (1:Int))) < (Int.ofNat len)))) (.br ((decide ((0:Int)≤(IntKind.i64.wrap ((Int.ofNat len) - (1:Int)))))&&(decide ((IntKind.i64.wrap ((Int.ofNat len) - (1:Int)))≤(Int.ofNat len)))) (.br (Zl (seen,seen1) (List.getD open_ (Int.toNat (IntKind.i64.wrap ((Int.ofNat len) - (1:Int)))) (dflt (.int .i64)))).1 (.br (Zdp t (List.getD open_ (Int.toNat (IntKind.i64.wrap ((Int.ofNat len) - (1:Int)))) (dflt (.int .i64)))) (.br (Nat.ble (((List.length (List.take (Int.toNat (IntKind.i64.wrap ((Int.ofNat len) - (1:Int)))) open_))+(List.length (ZP t (List.getD open_ (Int.toNat (IntKind.i64.wrap ((Int.ofNat len) - (1:Int)))) (dflt (.int .i64))))))*8) limit) (.jmp (.l4 (List.length ((List.take (Int.toNat (IntKind.i64.wrap ((Int.ofNat len) - (1:Int)))) open_)++(ZP t (List.getD open_ (Int.toNat (IntKind.i64.wrap ((Int.ofNat len) - (1:Int)))) (dflt (.int .i64)))))) (Zl (seen,seen1) (List.getD open_ (Int.toNat (IntKind.i64.wrap ((Int.ofNat len) - (1:Int)))) (dflt (.int .i64)))).2.1 ((List.take (Int.toNat (IntKind.i64.wrap ((Int.ofNat len) - (1:Int)))) open_)++(ZP t (List.getD open_ (Int.toNat (IntKind.i64.wrap ((Int.ofNat len) - (1:Int)))) (dflt (.int .i64))))) (Zl (seen,seen1) (List.getD open_ (Int.toNat (IntKind.i64.wrap ((Int.ofNat len) - (1:Int)))) (dflt (.int .i64)))).2.2)) (.no)) (.no)) (.jmp (.l4 (Int.toNat (IntKind.i64.wrap ((Int.ofNat len) - (1:Int)))) (Zl (seen,seen1) (List.getD open_ (Int.toNat (IntKind.i64.wrap ((Int.ofNat len) - (1:Int)))) (dflt (.int .i64)))).2.1 open_ (Zl (seen,seen1) (List.getD open_ (Int.toNat (IntKind.i64.wrap ((Int.ofNat len) - (1:Int)))) (dflt (.int .i64)))).2.2))) (.no)) (.no)) (.br (ZaH (seen,seen1)) (.leaf (ZaY (seen,seen1)).1) (.no))
def Zl6 (t:List (El Za)) (i:Int):JT ZhB (List Int):=.br (Zdp t i) (.jmp (.l4 (List.length (ZP t i)) (Zq (Int.ofNat (List.length t))).1 (ZP t i) (Zq (Int.ofNat (List.length t))).2)) (.no)
def Zla:List Int→AV:=fun (r:List Int)=>.rw 3 (.int .i64) r
def Zeg (t:List (El Za)) (i:Int):ZhB→Nat×St |.l4 len seen open_ seen1=>(4,⟨mkTm 39 [(2,.pt 3 0 0),(5,.pt 6 0 0),(6,.own 7 0 (some len))],[(3,0,.box 31 [.d (.sl Za) t] none),(6,0,.box 78 [.d (.int .i64) seen,.mp 6146 0] none),(7,0,.row 3 (.int .i64) open_ false),(6146,0,.map (.int .i64) (.int .u64) seen1)]⟩)
theorem Zze (t:List (El Za)) (i:Int) (L:Lt):entryA Go.Proofs.Tryz.prog (clOf ZnY) ZlT Go.Proofs.Tryz.f15 Zj6 L (toForms ZeW (t,i,()))=(Zl6 t i).run (fun v=>some (Zla v,tps (toForms ZeW (t,i,())))) fun j=>L (Zeg t i j).1 (Zeg t i j).2:=by kernel_rfl
theorem Zyn (t:List (El Za)) (i:Int):∀(L:Lt) (j:ZhB),procOf (procsF Go.Proofs.Tryz.prog (clOf ZnY) ZlT Go.Proofs.Tryz.f15 Zj6 (toForms ZeW (t,i,()))) (Zeg t i j).1 L (Zeg t i j).2=(Zht t i j).run (fun v=>some (Zla v,tps (toForms ZeW (t,i,())))) fun j=>L (Zeg t i j).1 (Zeg t i j).2 | L,.l4 len seen open_ seen1=>by kernel_rfl
end
end Go.Ev
end

section
open Go
namespace Go.Ev
noncomputable def ZaS (t:List (El Za)) (i:Int):List Int:=listOf t.length (fromB t i)
def Zfz (t:List (El Za)) (i:Int):Bool:=flowOK t
theorem Zu7 (t:List (El Za)) (i:Int):(ZP t i).length≤3:=by
 unfold ZP
 by_cases h:0≤i∧i < (t.length:Int)
 ·obtain ⟨j,rfl⟩:=Int.eq_ofNat_of_zero_le h.1
  rw[←ZBr (by omega)]
  unfold nextL
  simp only[List.length_append]
  split <;> split <;> split <;> simp
 ·rw[ZsE h];simp
theorem ZCG {l:List Int} {n:Nat} (h:n+1≤l.length):l.take (n+1)=l.take n++[l.getD n 0]:=by
 have hn:n < l.length:=by omega
 rw[List.take_succ_eq_append_getElem hn,Z4 hn]
theorem ZzW (t:List (El Za)) (i:Int) (hk:Zfz t i=true):Goes (Zht t i) (Zl6 t i) (ZaS t i):=by
 have hlen:=ZeF hk
 generalize hn:t.length=n at hlen
 have loop:∀m,∀(M:Nat→Bool) (s:Int×List (Int×Int)) (open_:List Int) (len:Nat),len≤open_.length→4*(n - card n M)+len=m→SetOK s n M→(∀j,M j=true→Come (fun k j=>nextB t (k:Int) j) (nextB t i) j)→
   (∀x∈open_.take len,∃j:Nat,x=(j:Int)∧Come (fun k j=>nextB t (k:Int) j) (nextB t i) j)→(∀j,nextB t i j=true→M j=true∨(j:Int)∈open_.take len)→(∀k j,M k=true→nextB t (k:Int) j=true→M j=true∨(j:Int)∈open_.take len)→
   len≤3*(card n M+1)→Goes (Zht t i) (.jmp (.l4 len s.1 open_ s.2)) (ZaS t i):=by
  intro m
  induction m using Nat.strongRecOn with
  | _ m ih=>
  intro M s open_ len hl hm hs h1 h2 h3 h4 h5
  cases len with
  | zero=>
   rw[Zn,Zht,Zf,if_neg (by decide)]
   have hkl:ZaH (s.1,s.2)=true:=Nat.ble_eq_true_of_le (by have:=hs.few;unfold limit;show s.2.length*512≤_;omega)
   rw[Zf,if_pos hkl]
   have hv:(ZaY (s.1,s.2)).1=ZaS t i:=by
    show listS s=_
    rw[hs.list (by omega)]
    unfold ZaS fromB
    rw[hn]
    refine ZlP fun j _=>Zrm (fun j hj=>?_) (fun k j hk hj=>?_) h1 j
    ·simpa using h3 j hj
    ·simpa using h4 k j hk hj
   rw[hv];exact .leaf
  | succ len=>
   have hc:= @Zfa n M
   have e:IntKind.i64.wrap (Int.ofNat (len+1) - 1)=(len:Int):=by
    rw[wrap_i64 (by simp <;> omega) (by simp <;> omega)];simp
   have g1:decide (Int.ofNat (len+1) > (0:Int))=true:=decide_eq_true (by simp <;> omega)
   have g2:(decide ((0:Int)≤(len:Int))&&decide ((len:Int) < Int.ofNat (len+1)))=true:=ZaP (by omega)
   have g3:(decide ((0:Int)≤(len:Int))&&decide ((len:Int)≤Int.ofNat (len+1)))=true:=by simp;omega
   rw[Zn,Zht,e,Zf,if_pos g1,Zf,if_pos g2,Zf,if_pos g3,Zf,Int.toNat_natCast]
   have htk:=ZCG hl
   obtain ⟨j,hj,hcj⟩:=h2 (open_.getD len 0) (by rw[htk];simp)
   have hjn:j < n:=by
    have:=ZCH (n:=t.length) (fun j=>Zfe) (fun k j=>Zfe) hcj
    omega
   have hd:open_.getD len (dflt (.int .i64))=(j:Int):=hj
   rw[hd]
   have hput:Zl (s.1,s.2) (j:Int)=putS s (j:Int):=rfl
   rw[hput]
   have sub:∀x,x∈open_.take len→x∈open_.take (len+1):=fun x hx=>by rw[htk];simp[hx]
   cases hMj:M j with
   | true=>
    have hno:=hs.put_no (by omega) (i:=(j:Int)) (fun h=>by rw[Int.toNat_natCast,hMj] at h;cases h.2.2)
    rw[hno,if_neg (by simp)]
    have lose:∀k:Nat,(M k=true∨(k:Int)∈open_.take (len+1))→(M k=true∨(k:Int)∈open_.take len):=fun k h=>by
     rcases h with h | h
     ·exact .inl h
     ·rw[htk,List.mem_append] at h
      rcases h with h | h
      ·exact .inr h
      ·simp only[List.mem_singleton] at h
       rw[hj] at h
       have:k=j:=by omega
       subst this
       exact .inl hMj
    exact ih (m - 1) (by omega) M s open_ len (by omega) (by omega) hs h1 (fun x hx=>h2 x (sub x hx)) (fun k hk=>lose k (h3 k hk)) (fun k k' hk hk'=>lose k' (h4 k k' hk hk')) (by omega)
   | false=>
    obtain ⟨p1,p2⟩:=hs.put (by omega) hjn hMj
    have hsh:=Zu7 t (j:Int)
    have hkn:Zdp t (j:Int)=true:=hk
    rw[p1,if_pos rfl,Zf,if_pos hkn,Zf,if_pos (Nat.ble_eq_true_of_le (by
     rw[List.length_take];unfold limit;omega))]
    have hcard:=ZpJ hMj hjn
    have hcl2:= @Zfa n (fun k=>M k || (k==j))
    have hnl:∀k:Nat,nextB t (j:Int) k=true→(k:Int)∈ZP t (j:Int):=fun k hk=>Zbq.2 ⟨k,Zfe hk,hk,rfl⟩
    have htake:(open_.take len++ZP t (j:Int)).take (open_.take len++ZP t (j:Int)).length=open_.take len++ZP t (j:Int):=List.take_length
    have hlen2:(open_.take len++ZP t (j:Int)).length≤len+3:=by rw[List.length_append,List.length_take];omega
    have keep:∀k:Nat,(M k=true∨(k:Int)∈open_.take (len+1))→((M k || (k==j))=true∨(k:Int)∈open_.take len++ZP t (j:Int)):=fun k h=>by
     rcases h with h | h
     ·exact .inl (by rw[h];rfl)
     ·rw[htk,List.mem_append] at h
      rcases h with h | h
      ·exact .inr (List.mem_append_left _ h)
      ·simp only[List.mem_singleton] at h
       rw[hj] at h
       have:k=j:=by omega
       subst this
       exact .inl (by simp)
    refine ih _ (by omega) (fun k=>M k || (k==j)) (putS s (j:Int)).2 (open_.take len++ZP t (j:Int)) (open_.take len++ZP t (j:Int)).length (Nat.le_refl _) rfl p2 (fun k hk=>?_) (fun x hx=>?_) (fun k hk=>?_) (fun k k' hk hk'=>?_) (by omega)
    ·simp only[Bool.or_eq_true,beq_iff_eq] at hk
     rcases hk with hk | hk
     ·exact h1 k hk
     ·subst hk;exact hcj
    ·rw[htake,List.mem_append] at hx
     rcases hx with hx | hx
     ·exact h2 x (sub x hx)
     ·obtain ⟨k,_,hk,rfl⟩:=Zbq.1 hx
      exact ⟨k,rfl,.step hcj hk⟩
    ·rw[htake];exact keep k (h3 k hk)
    ·rw[htake]
     simp only[Bool.or_eq_true,beq_iff_eq] at hk
     rcases hk with hk | hk
     ·exact keep k' (h4 k k' hk hk')
     ·subst hk
      exact .inr (List.mem_append_right _ (hnl k' hk'))
 have hkn:Zdp t i=true:=hk
 unfold Zl6
 rw[Zf,if_pos hkn]
 have hnew:Zq (Int.ofNat (List.length t))=((n:Int),[]):=by
  rw[hn]
  unfold Zq
  simp
  omega
 rw[hnew]
 refine loop _ (fun _=>false) ((n:Int),[]) (ZP t i) _ (Nat.le_refl _) rfl (SetOK.new n) (fun j h=>by cases h) (fun x hx=>?_) (fun j hj=>.inr ?_) (fun k j h=>by cases h) (by have:=Zu7 t i;omega)
 ·rw[List.take_length] at hx
  obtain ⟨k,_,hk,rfl⟩:=Zbq.1 hx
  exact ⟨k,rfl,.start hk⟩
 ·rw[List.take_length];exact Zbq.2 ⟨j,Zfe hj,hj,rfl⟩
end Go.Ev
end

section
open Go Go.Ev
namespace Go.Ev
noncomputable section
noncomputable def Zoh:Run:=entG ZeW Zla (fun a=>Zfz a.1 a.2.1) (fun a=>ZaS a.1 a.2.1)
theorem ZqL:EntOK Go.Proofs.Tryz.prog 15 Zoh:=Zao (tb:=ZlT) (c:=Zj6) ZyB (by kernel_rfl) (by kernel_rfl) (by kernel_rfl) (fun a=>by kernel_rfl) fun ⟨t,i,_⟩ hk=>Zp (c:=Zj6) (K:=fun v=>(Zla v,tps (toForms ZeW (t,i,())))) (S:=Zeg t i) (by kernel_rfl) (Zze t i) (Zyn t i) (ZzW t i hk)
end
end Go.Ev
end

section
open Go Go.Ev
namespace Go.Ev
noncomputable section
def Zhz:PSig:=[.dat false (.int .i64),.obj 53 [(.d (.sl Zb))],.obj 3 [(.d (.int .i64))],.ptr 58 78 [(.d (.int .i64)),(.m (.int .i64) (.int .u64))],.obj 55 [(.w 3 (.int .i64))],.obj 3 [(.d (.int .i64))],.ptr 58 78 [(.d (.int .i64)),(.m (.int .i64) (.int .u64))]]
noncomputable def Zjc:Tbl:=[(37,ZoT),(16,ZbJ)]
theorem Zs2:∀p∈Zjc,EntOK Go.Proofs.Tryz.prog p.1 p.2:=Zi Zt2 (Zi Zbj (Zu))
noncomputable def ZdY:Code:=Go.Proofs.Tryz.f36.body.getD .skip
def ZhP:Tb:=[(1,⟨[0,1,2,3,4,5,6,10,11,12],[]⟩)]
inductive ZdZ where | l1 (h:Int) (h1:Int) (h2:List Int) (h3:List (Int×Int)) (h4:Int) (h5:List (Int×Int))
def ZdX (x:Int) (l:List (El Zb)) (own:Int) (come:Int×List (Int×Int)) (open_:List Int) (a:Int) (back:Int×List (Int×Int)):ZdZ→JT ZdZ ((List (El Zb))×Int×(Int×List (Int×Int))×(List Int)×Int×Int×List (Int×Int)) |.l1 h h1 h2 h3 h4 h5=>.br (decide (h < (Int.ofNat (List.length l)))) (.br ((decide ((0:Int)≤h))&&(decide (h < (Int.ofNat (List.length l))))) (.br ((decide ((0:Int)≤x))&&(decide (x < (Int.ofNat (List.length l))))) (.br (! (Zdq (List.getD l (Int.toNat x) (dflt Zb)) (List.getD l (Int.toNat h) (dflt Zb)))) (.jmp (.l1 (IntKind.i64.wrap (h+(1:Int))) h1 h2 h3 h4 h5)) (.br ((List.getD l (Int.toNat h) (dflt Zb)).1 !=own) (.br (Zl (h1,h3) h).1 (.br (Nat.ble (((List.length h2)+1)*8) limit) (.jmp (.l1 (IntKind.i64.wrap (h+(1:Int))) (Zl (h1,h3) h).2.1 (h2++[h]) (Zl (h1,h3) h).2.2 h4 h5)) (.no)) (.jmp (.l1 (IntKind.i64.wrap (h+(1:Int))) (Zl (h1,h3) h).2.1 h2 (Zl (h1,h3) h).2.2 h4 h5))) (.br (x !=a) (.jmp (.l1 (IntKind.i64.wrap (h+(1:Int))) h1 h2 h3 (Zl (h4,h5) h).2.1 (Zl (h4,h5) h).2.2)) (.jmp (.l1 (IntKind.i64.wrap (h+(1:Int))) h1 h2 h3 h4 h5))))) (.no)) (.no)) (.leaf (l,(own,((h1,h3),(h2,(a,(h4,h5)))))))
def Zl7 (x:Int) (l:List (El Zb)) (own:Int) (come:Int×List (Int×Int)) (open_:List Int) (a:Int) (back:Int×List (Int×Int)):JT ZdZ ((List (El Zb))×Int×(Int×List (Int×Int))×(List Int)×Int×Int×List (Int×Int)):=.jmp (.l1 (0:Int) come.1 open_ come.2 back.1 back.2)
def ZfZ:(List (El Zb))×Int×(Int×List (Int×Int))×(List Int)×Int×Int×List (Int×Int)→Ans:=fun (r:(List (El Zb))×Int×(Int×List (Int×Int))×(List Int)×Int×Int×List (Int×Int))=>(.tu [],[.top,.bx 53 [.d (.sl Zb) r.1],.bx 3 [.d (.int .i64) r.2.1],.bx 58 [.bx 78 [.d (.int .i64) r.2.2.1.1,.mv (.int .i64) (.int .u64) r.2.2.1.2]],.bx 55 [.rw 3 (.int .i64) r.2.2.2.1],.bx 3 [.d (.int .i64) r.2.2.2.2.1],.bx 58 [.bx 78 [.d (.int .i64) r.2.2.2.2.2.1,.mv (.int .i64) (.int .u64) r.2.2.2.2.2.2]]])
def ZbA (x:Int) (l:List (El Zb)) (own:Int) (come:Int×List (Int×Int)) (open_:List Int) (a:Int) (back:Int×List (Int×Int)):ZdZ→Nat×St |.l1 h h1 h2 h3 h4 h5=>(1,⟨mkTm 42 [(0,.d (.int .i64) x),(1,.pt 2 0 0),(2,.pt 3 0 0),(3,.pt 4 0 0),(4,.pt 5 0 0),(5,.pt 6 0 0),(6,.pt 7 0 0),(10,.d (.sl Zb) l),(11,.d (.int .i64) (Int.ofNat (List.length l))),(12,.d (.int .i64) h)],[(2,0,.box 53 [.d (.sl Zb) l] (some 1)),(3,0,.box 3 [.d (.int .i64) own] (some 2)),(4,0,.box 58 [.pt 4097 0 0] (some 3)),(5,0,.box 55 [.own 5121 0 none] (some 4)),(6,0,.box 3 [.d (.int .i64) a] (some 5)),(7,0,.box 58 [.pt 7169 0 0] (some 6)),(4097,0,.box 78 [.d (.int .i64) h1,.mp 4195330 0] none),(5121,0,.row 3 (.int .i64) h2 false),(7169,0,.box 78 [.d (.int .i64) h4,.mp 7341058 0] none),(4195330,0,.map (.int .i64) (.int .u64) h3),(7341058,0,.map (.int .i64) (.int .u64) h5)]⟩)
theorem ZrU (x:Int) (l:List (El Zb)) (own:Int) (come:Int×List (Int×Int)) (open_:List Int) (a:Int) (back:Int×List (Int×Int)) (L:Lt):entryA Go.Proofs.Tryz.prog (clOf Zjc) ZhP Go.Proofs.Tryz.f36 ZdY L (toPs Zhz (x,l,own,come,open_,a,back,()))=(Zl7 x l own come open_ a back).run (fun v=>some (ZfZ v)) fun j=>L (ZbA x l own come open_ a back j).1 (ZbA x l own come open_ a back j).2:=by kernel_rfl
theorem ZrZ (x:Int) (l:List (El Zb)) (own:Int) (come:Int×List (Int×Int)) (open_:List Int) (a:Int) (back:Int×List (Int×Int)):∀(L:Lt) (j:ZdZ),procOf (procsF Go.Proofs.Tryz.prog (clOf Zjc) ZhP Go.Proofs.Tryz.f36 ZdY (toPs Zhz (x,l,own,come,open_,a,back,()))) (ZbA x l own come open_ a back j).1 L (ZbA x l own come open_ a back j).2=(ZdX x l own come open_ a back j).run (fun v=>some (ZfZ v)) fun j=>L (ZbA x l own come open_ a back j).1 (ZbA x l own come open_ a back j).2 | L,.l1 h h1 h2 h3 h4 h5=>by kernel_rfl
end
end Go.Ev
end

section
open Go
namespace Go.Ev
abbrev SetT:=Int×List (Int×Int)
def meet1 (l : List Acc) (x own a : Int) (h : Nat) (s : SetT × List Int × SetT) : SetT × List Int × SetT :=
  if clB l x.toNat h = true then
    (if thA l h ≠ own then ((putS s.1 (h : Int)).2, (if (putS s.1 (h : Int)).1 = true then s.2.1 ++ [(h : Int)] else s.2.1), s.2.2)
     else if x ≠ a then (s.1, s.2.1, (putS s.2.2 (h : Int)).2) else s)
  else s
def meetF (l:List Acc) (x own a:Int):List Nat→SetT×List Int×SetT→SetT×List Int×SetT
 | [],s=>s
 | h :: r,s=>meetF l x own a r (meet1 l x own a h s)
def ZE (x:Int) (l:List (El Zb)) (own:Int) (come:SetT) (open_:List Int) (a:Int) (back:SetT):(List (El Zb))×Int×SetT×(List Int)×Int×SetT:=
 (l,own,(meetF l x own a (List.range' 0 l.length) (come,open_,back)).1,(meetF l x own a (List.range' 0 l.length) (come,open_,back)).2.1,a,(meetF l x own a (List.range' 0 l.length) (come,open_,back)).2.2)
def Zd1 (x:Int) (l:List (El Zb)) (own:Int) (come:SetT) (open_:List Int) (a:Int) (back:SetT):Bool:=decide (0≤x∧x < (l.length:Int)∧l.length < 1099511627776∧open_.length < 1099511627776)
theorem Zt6 (x:Int) (l:List (El Zb)) (own:Int) (come:SetT) (open_:List Int) (a:Int) (back:SetT) (hk:Zd1 x l own come open_ a back=true):Goes (ZdX x l own come open_ a back) (Zl7 x l own come open_ a back) (ZE x l own come open_ a back):=by
 obtain ⟨x0,x1,hN,hO⟩:=of_decide_eq_true hk
 obtain ⟨T,hT⟩:∃T,T=ZdX x l own come open_ a back:=⟨_,rfl⟩
 rw[←hT]
 have loop:∀h,h≤l.length→∀s:SetT×List Int×SetT,s.2.1.length≤open_.length+h→Goes T (.jmp (.l1 (h:Int) s.1.1 s.2.1 s.1.2 s.2.2.1 s.2.2.2)) (l,own,(meetF l x own a (List.range' h (l.length - h)) s).1,(meetF l x own a (List.range' h (l.length - h)) s).2.1,a,(meetF l x own a (List.range' h (l.length - h)) s).2.2):=by
  refine down ?_ fun h hh ih=>?_
  ·intro s hs
   rw[Zn,hT,ZdX,←hT,Zf,if_neg (by rw[ZW (Nat.lt_irrefl _)];decide),Nat.sub_self]
   exact .leaf
  ·intro s hs
   have hx1:decide ((0:Int)≤x)=true:=decide_eq_true x0
   have hx2:decide (x < Int.ofNat l.length)=true:=decide_eq_true x1
   rw[show l.length - h=(l.length - (h+1))+1 by omega,List.range'_succ,meetF]
   have ec:Zdq (List.getD l x.toNat (dflt Zb)) (List.getD l h (dflt Zb))=clB l x.toNat h:=rfl
   have et:(List.getD l h (dflt Zb)).1=thA l h:=rfl
   have hp:Zl (s.1.1,s.1.2) (h:Int)=putS s.1 (h:Int):=rfl
   have hp2:Zl (s.2.2.1,s.2.2.2) (h:Int)=putS s.2.2 (h:Int):=rfl
   have b1:Nat.ble ((s.2.1.length+1)*8) limit=true:=Nat.ble_eq_true_of_le (by unfold limit;omega)
   have key:=ih (meet1 l x own a h s)
   rw[Zn,hT,ZdX,←hT]
   simp only[Zf,ZaK hh,nng,hx1,hx2,Bool.and_self,if_true,Int.toNat_natCast,ec,et,hp,hp2,b1,Zz (k:=h) (by omega)]
   by_cases c1:clB l x.toNat h=true
   ·rw[if_neg (by rw[c1];decide)]
    by_cases c2:thA l h=own
    ·rw[if_neg (by simp[c2])]
     by_cases c3:x=a
     ·have hm:meet1 l x own a h s=s:=by unfold meet1;rw[if_pos c1,if_neg (by simp[c2]),if_neg (by simp[c3])]
      rw[hm] at key ⊢
      rw[if_neg (by simp[c3])]
      exact key (by omega)
     ·have hm:meet1 l x own a h s=(s.1,s.2.1,(putS s.2.2 (h:Int)).2):=by unfold meet1;rw[if_pos c1,if_neg (by simp[c2]),if_pos c3]
      rw[hm] at key ⊢
      rw[if_pos (by simpa using c3)]
      exact key (by show s.2.1.length≤_;omega)
    ·rw[if_pos (by simpa using c2)]
     by_cases c4:(putS s.1 (h:Int)).1=true
     ·have hm:meet1 l x own a h s=((putS s.1 (h:Int)).2,s.2.1++[(h:Int)],s.2.2):=by unfold meet1;rw[if_pos c1,if_pos c2,if_pos c4]
      rw[hm] at key ⊢
      rw[if_pos c4]
      exact key (by show (s.2.1++[(h:Int)]).length≤_;simp;omega)
     ·have hm:meet1 l x own a h s=((putS s.1 (h:Int)).2,s.2.1,s.2.2):=by unfold meet1;rw[if_pos c1,if_pos c2,if_neg c4]
      rw[hm] at key ⊢
      rw[if_neg c4]
      exact key (by show s.2.1.length≤_;omega)
   ·have hm:meet1 l x own a h s=s:=by unfold meet1;rw[if_neg c1]
    rw[hm] at key ⊢
    rw[if_pos (by simpa using c1)]
    exact key (by omega)
 exact loop 0 (Nat.zero_le _) (come,open_,back) (by simp)
end Go.Ev
end

section
open Go Go.Ev
namespace Go.Ev
noncomputable section
noncomputable def Znv:Run:=entO Zhz ZfZ (fun a=>Zd1 a.1 a.2.1 a.2.2.1 a.2.2.2.1 a.2.2.2.2.1 a.2.2.2.2.2.1 a.2.2.2.2.2.2.1) (fun a=>ZE a.1 a.2.1 a.2.2.1 a.2.2.2.1 a.2.2.2.2.1 a.2.2.2.2.2.1 a.2.2.2.2.2.2.1)
theorem ZrD:EntOK Go.Proofs.Tryz.prog 36 Znv:=ZAL (tb:=ZhP) (c:=ZdY) (Zrp (Zpn (fn:=Go.Proofs.Tryz.f36) (c:=ZdY) (by kernel_rfl) (by kernel_rfl) (by kernel_rfl))) Zs2 (by kernel_rfl) (by kernel_rfl) (fun a=>by kernel_rfl) fun ⟨x,l,own,come,open_,a,back,_⟩ hk=>Zp (c:=ZdY) (K:=ZfZ) (S:=ZbA x l own come open_ a back) (by kernel_rfl) (ZrU x l own come open_ a back) (ZrZ x l own come open_ a back) (Zt6 x l own come open_ a back hk)
end
end Go.Ev
end

section
open Go Go.Ev
namespace Go.Ev
noncomputable section
def ZbZ:Sig:=[(true,Zc),(false,(.sl Zb)),(false,(.int .i64))]
noncomputable def Zi2:Tbl:=[(14,Zhm),(15,Zoh),(16,ZbJ),(17,ZdV)]
theorem ZrY:∀p∈Zi2,EntOK Go.Proofs.Tryz.prog p.1 p.2:=Zi ZhM (Zi ZqL (Zi Zbj (Zi Zdg (Zu))))
noncomputable def Zf2:Code:=Go.Proofs.Tryz.f38.body.getD .skip
def Zh1:Tb:=[(6,⟨[1,2,7,9,32,33,34,58,64,69,70,72,76],[]⟩),(14,⟨[2,7,9,12,42,43,44],[(13,110)]⟩)]
inductive Zd3 where | l6 (h:Int) (x:Int) (x1:Int) (x2:Int) (x3:Int) (x4:Bool) (x5:Bool) (from_:Int) (h1:List Int) (from_1:List (Int×Int)) (h2:Int) | l14 (x:Int) (x1:Int) (x2:Int) (x3:Int) (x4:Bool) (x5:Bool) (from_:Int) (from_1:List (Int×Int)) (h:Int) (out:List Int)
def ZaG (p:El Zc) (l:List (El Zb)) (c:Int):Zd3→JT Zd3 (List Int) |.l6 h x x1 x2 x3 x4 x5 from_ h1 from_1 h2=>.br (decide (h2 < h)) (.br ((decide ((0:Int)≤h2))&&(decide (h2 < (Int.ofNat (List.length h1))))) (.jmp (.l6 h x x1 x2 x3 x4 x5 (Zl (from_,from_1) (List.getD h1 (Int.toNat h2) (dflt (.int .i64)))).2.1 h1 (Zl (from_,from_1) (List.getD h1 (Int.toNat h2) (dflt (.int .i64)))).2.2 (IntKind.i64.wrap (h2+(1:Int))))) (.no)) (.jmp (.l14 x x1 x2 x3 x4 x5 from_ from_1 (0:Int) [])) |.l14 x x1 x2 x3 x4 x5 from_ from_1 h out=>.br (decide (h < (Int.ofNat (List.length l)))) (.br ((decide ((0:Int)≤h))&&(decide (h < (Int.ofNat (List.length l))))) (.br ((List.getD l (Int.toNat h) (dflt Zb)).1==x) (.br (h==c) (.br (Nat.ble (((List.length out)+1)*8) limit) (.jmp (.l14 x x1 x2 x3 x4 x5 from_ from_1 (IntKind.i64.wrap (h+(1:Int))) (out++[h]))) (.no)) (.br ((List.getD l (Int.toNat h) (dflt Zb)).2.1==x1) (.br (decide ((List.getD l (Int.toNat h) (dflt Zb)).2.2.1 > x2)) (.br (Nat.ble (((List.length out)+1)*8) limit) (.jmp (.l14 x x1 x2 x3 x4 x5 from_ from_1 (IntKind.i64.wrap (h+(1:Int))) (out++[h]))) (.no)) (.br (Zk (from_,from_1) (List.getD l (Int.toNat h) (dflt Zb)).2.1).1 (.br (Nat.ble (((List.length out)+1)*8) limit) (.jmp (.l14 x x1 x2 x3 x4 x5 (Zk (from_,from_1) (List.getD l (Int.toNat h) (dflt Zb)).2.1).2.1 (Zk (from_,from_1) (List.getD l (Int.toNat h) (dflt Zb)).2.1).2.2 (IntKind.i64.wrap (h+(1:Int))) (out++[h]))) (.no)) (.jmp (.l14 x x1 x2 x3 x4 x5 (Zk (from_,from_1) (List.getD l (Int.toNat h) (dflt Zb)).2.1).2.1 (Zk (from_,from_1) (List.getD l (Int.toNat h) (dflt Zb)).2.1).2.2 (IntKind.i64.wrap (h+(1:Int))) out)))) (.br (Zk (from_,from_1) (List.getD l (Int.toNat h) (dflt Zb)).2.1).1 (.br (Nat.ble (((List.length out)+1)*8) limit) (.jmp (.l14 x x1 x2 x3 x4 x5 (Zk (from_,from_1) (List.getD l (Int.toNat h) (dflt Zb)).2.1).2.1 (Zk (from_,from_1) (List.getD l (Int.toNat h) (dflt Zb)).2.1).2.2 (IntKind.i64.wrap (h+(1:Int))) (out++[h]))) (.no)) (.jmp (.l14 x x1 x2 x3 x4 x5 (Zk (from_,from_1) (List.getD l (Int.toNat h) (dflt Zb)).2.1).2.1 (Zk (from_,from_1) (List.getD l (Int.toNat h) (dflt Zb)).2.1).2.2 (IntKind.i64.wrap (h+(1:Int))) out))))) (.jmp (.l14 x x1 x2 x3 x4 x5 from_ from_1 (IntKind.i64.wrap (h+(1:Int))) out))) (.no)) (.leaf out)
def ZhQ (p:El Zc) (l:List (El Zb)) (c:Int):JT Zd3 (List Int):=.br ((decide ((0:Int)≤c))&&(decide (c < (Int.ofNat (List.length l))))) (.br ((decide ((0:Int)≤(List.getD l (Int.toNat c) (dflt Zb)).1))&&(decide ((List.getD l (Int.toNat c) (dflt Zb)).1 < (Int.ofNat (List.length p.2))))) (.br (Zfz (List.getD p.2 (Int.toNat (List.getD l (Int.toNat c) (dflt Zb)).1) (dflt (.sl Za))) (List.getD l (Int.toNat c) (dflt Zb)).2.1) (.jmp (.l6 (Int.ofNat (List.length (ZaS (List.getD p.2 (Int.toNat (List.getD l (Int.toNat c) (dflt Zb)).1) (dflt (.sl Za))) (List.getD l (Int.toNat c) (dflt Zb)).2.1))) (List.getD l (Int.toNat c) (dflt Zb)).1 (List.getD l (Int.toNat c) (dflt Zb)).2.1 (List.getD l (Int.toNat c) (dflt Zb)).2.2.1 (List.getD l (Int.toNat c) (dflt Zb)).2.2.2.1 (List.getD l (Int.toNat c) (dflt Zb)).2.2.2.2.1 (List.getD l (Int.toNat c) (dflt Zb)).2.2.2.2.2 (Zq (Int.ofNat (List.length (List.getD p.2 (Int.toNat (List.getD l (Int.toNat c) (dflt Zb)).1) (dflt (.sl Za)))))).1 (ZaS (List.getD p.2 (Int.toNat (List.getD l (Int.toNat c) (dflt Zb)).1) (dflt (.sl Za))) (List.getD l (Int.toNat c) (dflt Zb)).2.1) (Zq (Int.ofNat (List.length (List.getD p.2 (Int.toNat (List.getD l (Int.toNat c) (dflt Zb)).1) (dflt (.sl Za)))))).2 (0:Int))) (.no)) (.no)) (.no)
def Zf0:List Int→AV:=fun (r:List Int)=>.rw 3 (.int .i64) r
def ZbD (p:El Zc) (l:List (El Zb)) (c:Int):Zd3→Nat×St |.l6 h x x1 x2 x3 x4 x5 from_ h1 from_1 h2=>(6,⟨mkTm 85 [(1,.d (.sl Zb) l),(2,.d (.int .i64) c),(7,.pt 8 0 0),(9,.pt 10 0 0),(32,.own 33 0 none),(33,.d (.int .i64) h),(34,.d (.int .i64) h2)],[(8,0,.box 62 [.d (.int .i64) x,.d (.int .i64) x1,.d (.int .i64) x2,.d (.int .i64) x3,.d .bool x4,.d .bool x5] none),(10,0,.box 78 [.d (.int .i64) from_,.mp 10242 0] none),(33,0,.row 3 (.int .i64) h1 false),(10242,0,.map (.int .i64) (.int .u64) from_1)]⟩) |.l14 x x1 x2 x3 x4 x5 from_ from_1 h out=>(14,⟨mkTm 85 [(2,.d (.int .i64) c),(7,.pt 8 0 0),(9,.pt 10 0 0),(12,.own 13 0 none),(42,.d (.sl Zb) l),(43,.d (.int .i64) (Int.ofNat (List.length l))),(44,.d (.int .i64) h)],[(8,0,.box 62 [.d (.int .i64) x,.d (.int .i64) x1,.d (.int .i64) x2,.d (.int .i64) x3,.d .bool x4,.d .bool x5] none),(10,0,.box 78 [.d (.int .i64) from_,.mp 10242 0] none),(13,0,.row 3 (.int .i64) out false),(10242,0,.map (.int .i64) (.int .u64) from_1)]⟩)
theorem ZrQ (p:El Zc) (l:List (El Zb)) (c:Int) (L:Lt):entryA Go.Proofs.Tryz.prog (clOf Zi2) Zh1 Go.Proofs.Tryz.f38 Zf2 L (toForms ZbZ (p,l,c,()))=(ZhQ p l c).run (fun v=>some (Zf0 v,tps (toForms ZbZ (p,l,c,())))) fun j=>L (ZbD p l c j).1 (ZbD p l c j).2:=by kernel_rfl
theorem Zsj (p:El Zc) (l:List (El Zb)) (c:Int):∀(L:Lt) (j:Zd3),procOf (procsF Go.Proofs.Tryz.prog (clOf Zi2) Zh1 Go.Proofs.Tryz.f38 Zf2 (toForms ZbZ (p,l,c,()))) (ZbD p l c j).1 L (ZbD p l c j).2=(ZaG p l c j).run (fun v=>some (Zf0 v,tps (toForms ZbZ (p,l,c,())))) fun j=>L (ZbD p l c j).1 (ZbD p l c j).2 | L,.l6 h x x1 x2 x3 x4 x5 from_ h1 from_1 h2=>by kernel_rfl | L,.l14 x x1 x2 x3 x4 x5 from_ from_1 h out=>by kernel_rfl
end
end Go.Ev
end

section
open Go
namespace Go.Ev
noncomputable def Za9 (p:El Zc) (l:List (El Zb)) (c:Int):List Int:=listOf l.length (behB p l c.toNat)
def ZcF (p:El Zc) (l:List (El Zb)) (c:Int):Bool:=decide (0≤c∧c < (l.length:Int)∧l.length < 1099511627776)&&(decide (0≤thA l c.toNat∧thA l c.toNat < (p.2.length:Int))&&flowOK (thrOf p l c.toNat))
theorem Zt3 (p:El Zc) (l:List (El Zb)) (c:Int) (hk:ZcF p l c=true):Goes (ZaG p l c) (ZhQ p l c) (Za9 p l c):=by
 unfold ZcF at hk
 simp only[Bool.and_eq_true,decide_eq_true_eq] at hk
 obtain ⟨⟨c0,c1,hN⟩,⟨t0,t1⟩,hf⟩:=hk
 obtain ⟨c,rfl⟩:=Int.eq_ofNat_of_zero_le c0
 rw[Int.toNat_natCast] at t0 t1 hf
 have hc:c < l.length:=by omega
 have htl:=ZeF hf
 obtain ⟨t,ht⟩:∃t,thrOf p l c=t:=⟨_,rfl⟩
 have hg:List.getD p.2 (Int.toNat (List.getD l c (dflt Zb)).1) (dflt (.sl Za))=t:=ht
 rw[ht] at hf htl
 have kf:Zfz t (List.getD l c (dflt Zb)).2.1=true:=hf
 obtain ⟨L,hL⟩:∃L,ZaS t (List.getD l c (dflt Zb)).2.1=L:=⟨_,rfl⟩
 have hLl:L.length≤t.length:=by rw[←hL];unfold ZaS;rw[Zfr];exact Zfa
 have hmem:∀x,x∈L↔∃i:Nat,i < t.length∧fromB t (inA l c) i=true∧x=(i:Int):=fun x=>by rw[←hL];exact Zbq
 unfold ZhQ Za9
 rw[Zf,if_pos (ZaP hc),Zf,Int.toNat_natCast]
 have hth:(decide ((0:Int)≤(List.getD l c (dflt Zb)).1)&&decide ((List.getD l c (dflt Zb)).1 < Int.ofNat p.2.length))=true:=by
  rw[Bool.and_eq_true,decide_eq_true_eq,decide_eq_true_eq];exact ⟨t0,t1⟩
 rw[if_pos hth,Zf,hg,if_pos kf,hL]
 have hnew:Zq (Int.ofNat (List.length t))=(((t.length:Nat):Int),[]):=by
  unfold Zq
  simp
  omega
 rw[hnew]
 have second:∀(s:Int×List (Int×Int)),SetOK s t.length (fromB t (inA l c))→∀h,h≤l.length→∀out:List Int,out.length≤h→
   Goes (ZaG p l (c:Int)) (.jmp (.l14 (List.getD l c (dflt Zb)).1 (List.getD l c (dflt Zb)).2.1 (List.getD l c (dflt Zb)).2.2.1 (List.getD l c (dflt Zb)).2.2.2.1 (List.getD l c (dflt Zb)).2.2.2.2.1 (List.getD l c (dflt Zb)).2.2.2.2.2 s.1 s.2 (h:Int) out)) (out++listR l.length (behB p l c) h):=by
  intro s hs
  refine down ?_ fun h hh ih=>?_
  ·intro out ho
   rw[Zn,ZaG,Zf,if_neg (by rw[ZW (Nat.lt_irrefl _)];decide),ZCD,List.append_nil]
   exact .leaf
  ·intro out ho
   have b1:Nat.ble ((out.length+1)*8) limit=true:=Nat.ble_eq_true_of_le (by unfold limit;omega)
   have hhas:Zk (s.1,s.2) (inA l h)=(decide (0≤inA l h)&&fromB t (inA l c) (inA l h).toNat,s):=by
    show (hasS s (inA l h),s)=_
    rw[hs.has (by omega)]
   have add:behB p l c h=true→Goes (ZaG p l (c:Int)) (.jmp (.l14 (List.getD l c (dflt Zb)).1 (List.getD l c (dflt Zb)).2.1 (List.getD l c (dflt Zb)).2.2.1 (List.getD l c (dflt Zb)).2.2.2.1 (List.getD l c (dflt Zb)).2.2.2.2.1 (List.getD l c (dflt Zb)).2.2.2.2.2 s.1 s.2 ((h+1:Nat):Int) (out++[(h:Int)]))) (out++listR l.length (behB p l c) h):=fun hb=>by
    rw[Zuq hh,if_pos hb]
    have:=ih (out++[(h:Int)]) (by simp;omega)
    rwa[List.append_assoc] at this
   have skip:behB p l c h=false→Goes (ZaG p l (c:Int)) (.jmp (.l14 (List.getD l c (dflt Zb)).1 (List.getD l c (dflt Zb)).2.1 (List.getD l c (dflt Zb)).2.2.1 (List.getD l c (dflt Zb)).2.2.2.1 (List.getD l c (dflt Zb)).2.2.2.2.1 (List.getD l c (dflt Zb)).2.2.2.2.2 s.1 s.2 ((h+1:Nat):Int) out)) (out++listR l.length (behB p l c) h):=fun hb=>by
    rw[Zuq hh,hb,if_neg (by decide)]
    exact ih out (by omega)
   have e1:(List.getD l h (dflt Zb)).1=thA l h:=rfl
   have e2:(List.getD l h (dflt Zb)).2.1=inA l h:=rfl
   have e3:(List.getD l h (dflt Zb)).2.2.1=paA l h:=rfl
   have f1:(List.getD l c (dflt Zb)).1=thA l c:=rfl
   have f2:(List.getD l c (dflt Zb)).2.1=inA l c:=rfl
   have f3:(List.getD l c (dflt Zb)).2.2.1=paA l c:=rfl
   have hbe:behB p l c h=(thA l h==thA l c&&(h==c || ((inA l h==inA l c&&decide (paA l h > paA l c)) || (decide (0≤inA l h)&&fromB t (inA l c) (inA l h).toNat)))):=by
    unfold behB
    rw[decide_eq_true hh,Bool.true_and,ht]
   have hhc:((h:Int)==(c:Int))=(h==c):=by
    by_cases e:h=c
    ·subst e;simp
    ·have:(h==c)=false:=by simpa using e
     rw[this];simp;omega
   rw[Zn,ZaG]
   simp only[Zf,ZaK hh,nng,Bool.and_self,if_true,Int.toNat_natCast,b1,Zz (k:=h) (by omega),e1,e2,e3,hhas,hhc]
   rw[f1,f2,f3] at*
   generalize hq:(decide (0≤inA l h)&&fromB t (inA l c) (inA l h).toNat)=q at*
   by_cases c1:(thA l h==thA l c)=true
   ·rw[if_pos c1]
    rw[c1,Bool.true_and] at hbe
    by_cases c2:(h==c)=true
    ·rw[if_pos c2]
     rw[c2,Bool.true_or] at hbe
     exact add hbe
    ·rw[if_neg c2]
     rw[Bool.eq_false_iff.2 c2,Bool.false_or] at hbe
     by_cases c3:(inA l h==inA l c)=true
     ·rw[if_pos c3]
      rw[c3,Bool.true_and] at hbe
      by_cases c4:decide (paA l h > paA l c)=true
      ·rw[if_pos c4]
       rw[c4,Bool.true_or] at hbe
       exact add hbe
      ·rw[if_neg c4]
       rw[Bool.eq_false_iff.2 c4,Bool.false_or] at hbe
       cases q with
       | true=>rw[if_pos rfl];exact add hbe
       | false=>rw[if_neg (by decide)];exact skip hbe
     ·rw[if_neg c3]
      rw[Bool.eq_false_iff.2 c3,Bool.false_and,Bool.false_or] at hbe
      cases q with
      | true=>rw[if_pos rfl];exact add hbe
      | false=>rw[if_neg (by decide)];exact skip hbe
   ·rw[if_neg c1]
    rw[Bool.eq_false_iff.2 c1,Bool.false_and] at hbe
    exact skip hbe
 have first:∀h,h≤L.length→∀(s:Int×List (Int×Int)),SetOK s t.length (fun j=>(L.take h).contains (j:Int))→
   Goes (ZaG p l (c:Int)) (.jmp (.l6 (Int.ofNat L.length) (List.getD l c (dflt Zb)).1 (List.getD l c (dflt Zb)).2.1 (List.getD l c (dflt Zb)).2.2.1 (List.getD l c (dflt Zb)).2.2.2.1 (List.getD l c (dflt Zb)).2.2.2.2.1 (List.getD l c (dflt Zb)).2.2.2.2.2 s.1 L s.2 (h:Int))) (listOf l.length (behB p l c)):=by
  refine down ?_ fun h hh ih=>?_
  ·intro s hs
   rw[Zn,ZaG,Zf,if_neg (by simp)]
   have:=second s (hs.congr' fun j=>by
    rw[List.take_length,Bool.eq_iff_iff,List.contains_iff_mem,hmem]
    constructor
    ·rintro ⟨i,_,h1,h2⟩;have:j=i:=by omega
     subst this;exact h1
    ·intro h;exact ⟨j,ZDR h,h,rfl⟩) 0 (Nat.zero_le _) [] (Nat.le_refl _)
   rwa[List.nil_append,ZBU] at this
  ·intro s hs
   obtain ⟨i,hi,_,hie⟩:=(hmem L[h]).1 (List.getElem_mem hh)
   obtain ⟨_,p2⟩:=hs.putO (by omega) hi
   have hp:Zl (s.1,s.2) (i:Int)=putS s (i:Int):=rfl
   rw[Zn,ZaG,Zf,if_pos (ZaK hh),Zf,if_pos (ZaP hh),Int.toNat_natCast,Z4 hh,hie,hp,Zz (by omega)]
   refine ih _ (p2.congr' fun j=>?_)
   rw[List.take_succ_eq_append_getElem hh,Bool.eq_iff_iff,Bool.or_eq_true,List.contains_iff_mem,List.contains_iff_mem,List.mem_append,List.mem_singleton,hie,beq_iff_eq]
   exact or_congr Iff.rfl (by omega)
 exact first 0 (Nat.zero_le _) (((t.length:Nat):Int),[]) ((SetOK.new t.length).congr' fun j=>by simp)
end Go.Ev
end

section
open Go Go.Ev
namespace Go.Ev
noncomputable section
noncomputable def Znn:Run:=entG ZbZ Zf0 (fun a=>ZcF a.1 a.2.1 a.2.2.1) (fun a=>Za9 a.1 a.2.1 a.2.2.1)
theorem Zse:EntOK Go.Proofs.Tryz.prog 38 Znn:=Zao (tb:=Zh1) (c:=Zf2) ZrY (by kernel_rfl) (by kernel_rfl) (by kernel_rfl) (fun a=>by kernel_rfl) fun ⟨p,l,c,_⟩ hk=>Zp (c:=Zf2) (K:=fun v=>(Zf0 v,tps (toForms ZbZ (p,l,c,())))) (S:=ZbD p l c) (by kernel_rfl) (ZrQ p l c) (Zsj p l c) (Zt3 p l c hk)
end
end Go.Ev
end

section
open Go Go.Ev
namespace Go.Ev
noncomputable section
def ZdO:Sig:=[(true,Zc),(false,(.int .i64))]
noncomputable def ZlY:Tbl:=[(12,ZpZ),(14,Zhm),(36,Znv),(38,Znn),(16,ZbJ),(34,Zfl)]
theorem Zvd:∀p∈ZlY,EntOK Go.Proofs.Tryz.prog p.1 p.2:=Zi ZrN (Zi ZhM (Zi ZrD (Zi Zse (Zi Zbj (Zi Zgw (Zu))))))
noncomputable def Zik:Code:=Go.Proofs.Tryz.f18.body.getD .skip
def ZkL:Tb:=[(11,⟨[2,5,7,9,10,11],[]⟩),(17,⟨[2,5,7,9,10,11,54,55,56],[]⟩),(hintK,⟨[],[(1,110)]⟩)]
inductive Zgq where | l11 (l:List (El Zb)) (back:Int) (open_:List Int) (meet:Int) (meet1:Int) (back1:List (Int×Int)) (meet2:Int) (meet3:List (Int×Int)) (gone:Int) (gone1:List (Int×Int)) | l17 (h:Int) (l:List (El Zb)) (h1:List Int) (back:Int) (open_:List Int) (meet:Int) (meet1:Int) (back1:List (Int×Int)) (meet2:Int) (meet3:List (Int×Int)) (h2:Int) (gone:Int) (gone1:List (Int×Int))
def Zdh (p:El Zc) (a:Int):Zgq→JT Zgq (List Int) |.l11 l back open_ meet meet1 back1 meet2 meet3 gone gone1=>.br (decide ((Int.ofNat (List.length open_)) > (0:Int))) (.br (decide ((0:Int) < (Int.ofNat (List.length open_)))) (.br (Nat.ble 1 (List.length open_)) (.br (ZcF p l (List.getD open_ 0 (dflt (.int .i64)))) (.jmp (.l17 (Int.ofNat (List.length (Za9 p l (List.getD open_ 0 (dflt (.int .i64)))))) l (Za9 p l (List.getD open_ 0 (dflt (.int .i64)))) back (List.drop 1 open_) meet meet1 back1 meet2 meet3 (0:Int) gone gone1)) (.no)) (.no)) (.no)) (.br (ZaH (back,back1)) (.leaf (ZaY (back,back1)).1) (.no)) |.l17 h l h1 back open_ meet meet1 back1 meet2 meet3 h2 gone gone1=>.br (decide (h2 < h)) (.br ((decide ((0:Int)≤h2))&&(decide (h2 < (Int.ofNat (List.length h1))))) (.br (Zl (gone,gone1) (List.getD h1 (Int.toNat h2) (dflt (.int .i64)))).1 (.br (Zd1 (List.getD h1 (Int.toNat h2) (dflt (.int .i64))) l meet (meet2,meet3) open_ meet1 (back,back1)) (.jmp (.l17 h (ZE (List.getD h1 (Int.toNat h2) (dflt (.int .i64))) l meet (meet2,meet3) open_ meet1 (back,back1)).1 h1 (ZE (List.getD h1 (Int.toNat h2) (dflt (.int .i64))) l meet (meet2,meet3) open_ meet1 (back,back1)).2.2.2.2.2.1 (ZE (List.getD h1 (Int.toNat h2) (dflt (.int .i64))) l meet (meet2,meet3) open_ meet1 (back,back1)).2.2.2.1 (ZE (List.getD h1 (Int.toNat h2) (dflt (.int .i64))) l meet (meet2,meet3) open_ meet1 (back,back1)).2.1 (ZE (List.getD h1 (Int.toNat h2) (dflt (.int .i64))) l meet (meet2,meet3) open_ meet1 (back,back1)).2.2.2.2.1 (ZE (List.getD h1 (Int.toNat h2) (dflt (.int .i64))) l meet (meet2,meet3) open_ meet1 (back,back1)).2.2.2.2.2.2 (ZE (List.getD h1 (Int.toNat h2) (dflt (.int .i64))) l meet (meet2,meet3) open_ meet1 (back,back1)).2.2.1.1 (ZE (List.getD h1 (Int.toNat h2) (dflt (.int .i64))) l meet (meet2,meet3) open_ meet1 (back,back1)).2.2.1.2 (IntKind.i64.wrap (h2+(1:Int))) (Zl (gone,gone1) (List.getD h1 (Int.toNat h2) (dflt (.int .i64)))).2.1 (Zl (gone,gone1) (List.getD h1 (Int.toNat h2) (dflt (.int .i64)))).2.2)) (.no)) (.jmp (.l17 h l h1 back open_ meet meet1 back1 meet2 meet3 (IntKind.i64.wrap (h2+(1:Int))) (Zl (gone,gone1) (List.getD h1 (Int.toNat h2) (dflt (.int .i64)))).2.1 (Zl (gone,gone1) (List.getD h1 (Int.toNat h2) (dflt (.int .i64)))).2.2))) (.no)) (.jmp (.l11 l back open_ meet meet1 back1 meet2 meet3 gone gone1))
def Zj9 (p:El Zc) (a:Int):JT Zgq (List Int):=.br (ZjJ p) (.br (decide (a < (0:Int))) (.leaf []) (.br (decide (a≥(Int.ofNat (List.length (Zt p))))) (.leaf []) (.br ((decide ((0:Int)≤a))&&(decide (a < (Int.ofNat (List.length (Zt p)))))) (.br (Zd1 a (Zt p) (List.getD (Zt p) (Int.toNat a) (dflt Zb)).1 (Zq (Int.ofNat (List.length (Zt p)))) [] a (Zq (Int.ofNat (List.length (Zt p))))) (.jmp (.l11 (ZE a (Zt p) (List.getD (Zt p) (Int.toNat a) (dflt Zb)).1 (Zq (Int.ofNat (List.length (Zt p)))) [] a (Zq (Int.ofNat (List.length (Zt p))))).1 (ZE a (Zt p) (List.getD (Zt p) (Int.toNat a) (dflt Zb)).1 (Zq (Int.ofNat (List.length (Zt p)))) [] a (Zq (Int.ofNat (List.length (Zt p))))).2.2.2.2.2.1 (ZE a (Zt p) (List.getD (Zt p) (Int.toNat a) (dflt Zb)).1 (Zq (Int.ofNat (List.length (Zt p)))) [] a (Zq (Int.ofNat (List.length (Zt p))))).2.2.2.1 (ZE a (Zt p) (List.getD (Zt p) (Int.toNat a) (dflt Zb)).1 (Zq (Int.ofNat (List.length (Zt p)))) [] a (Zq (Int.ofNat (List.length (Zt p))))).2.1 (ZE a (Zt p) (List.getD (Zt p) (Int.toNat a) (dflt Zb)).1 (Zq (Int.ofNat (List.length (Zt p)))) [] a (Zq (Int.ofNat (List.length (Zt p))))).2.2.2.2.1 (ZE a (Zt p) (List.getD (Zt p) (Int.toNat a) (dflt Zb)).1 (Zq (Int.ofNat (List.length (Zt p)))) [] a (Zq (Int.ofNat (List.length (Zt p))))).2.2.2.2.2.2 (ZE a (Zt p) (List.getD (Zt p) (Int.toNat a) (dflt Zb)).1 (Zq (Int.ofNat (List.length (Zt p)))) [] a (Zq (Int.ofNat (List.length (Zt p))))).2.2.1.1 (ZE a (Zt p) (List.getD (Zt p) (Int.toNat a) (dflt Zb)).1 (Zq (Int.ofNat (List.length (Zt p)))) [] a (Zq (Int.ofNat (List.length (Zt p))))).2.2.1.2 (Zq (Int.ofNat (List.length (Zt p)))).1 (Zq (Int.ofNat (List.length (Zt p)))).2)) (.no)) (.no)))) (.no)
def Ziz:List Int→AV:=fun (r:List Int)=>.rw 3 (.int .i64) r
def Zc2 (p:El Zc) (a:Int):Zgq→Nat×St |.l11 l back open_ meet meet1 back1 meet2 meet3 gone gone1=>(11,⟨mkTm 69 [(2,.pt 3 0 0),(5,.pt 6 0 0),(7,.pt 8 0 0),(9,.pt 10 0 0),(10,.pt 11 0 0),(11,.fn 36 [.pt 6 0 0,.pt 12290 0 0,.pt 12291 0 0,.pt 11 0 0,.pt 12293 0 0,.pt 8 0 0])],[(3,0,.box 27 [.d (.sl ZJ) p.1,.d (.sl (.sl Za)) p.2] none),(6,0,.box 53 [.d (.sl Zb) l] none),(8,0,.box 58 [.pt 8193 0 0] none),(10,0,.box 78 [.d (.int .i64) gone,.mp 10242 0] none),(11,0,.box 55 [.own 11265 0 none] none),(8193,0,.box 78 [.d (.int .i64) back,.mp 8389634 0] none),(10242,0,.map (.int .i64) (.int .u64) gone1),(11265,0,.row 3 (.int .i64) open_ false),(12290,0,.box 3 [.d (.int .i64) meet] none),(12291,0,.box 58 [.pt 12585985 0 0] none),(12293,0,.box 3 [.d (.int .i64) meet1] none),(8389634,0,.map (.int .i64) (.int .u64) back1),(12585985,0,.box 78 [.d (.int .i64) meet2,.mp 12888048642 0] none),(12888048642,0,.map (.int .i64) (.int .u64) meet3)]⟩) |.l17 h l h1 back open_ meet meet1 back1 meet2 meet3 h2 gone gone1=>(17,⟨mkTm 69 [(2,.pt 3 0 0),(5,.pt 6 0 0),(7,.pt 8 0 0),(9,.pt 10 0 0),(10,.pt 11 0 0),(11,.fn 36 [.pt 6 0 0,.pt 12290 0 0,.pt 12291 0 0,.pt 11 0 0,.pt 12293 0 0,.pt 8 0 0]),(54,.own 55 0 none),(55,.d (.int .i64) h),(56,.d (.int .i64) h2)],[(3,0,.box 27 [.d (.sl ZJ) p.1,.d (.sl (.sl Za)) p.2] none),(6,0,.box 53 [.d (.sl Zb) l] none),(8,0,.box 58 [.pt 8193 0 0] none),(10,0,.box 78 [.d (.int .i64) gone,.mp 10242 0] none),(11,0,.box 55 [.own 11265 0 none] none),(55,0,.row 3 (.int .i64) h1 false),(8193,0,.box 78 [.d (.int .i64) back,.mp 8389634 0] none),(10242,0,.map (.int .i64) (.int .u64) gone1),(11265,0,.row 3 (.int .i64) open_ false),(12290,0,.box 3 [.d (.int .i64) meet] none),(12291,0,.box 58 [.pt 12585985 0 0] none),(12293,0,.box 3 [.d (.int .i64) meet1] none),(8389634,0,.map (.int .i64) (.int .u64) back1),(12585985,0,.box 78 [.d (.int .i64) meet2,.mp 12888048642 0] none),(12888048642,0,.map (.int .i64) (.int .u64) meet3)]⟩)
theorem Zw1 (p:El Zc) (a:Int) (L:Lt):entryA Go.Proofs.Tryz.prog (clOf ZlY) ZkL Go.Proofs.Tryz.f18 Zik L (toForms ZdO (p,a,()))=(Zj9 p a).run (fun v=>some (Ziz v,tps (toForms ZdO (p,a,())))) fun j=>L (Zc2 p a j).1 (Zc2 p a j).2:=by kernel_rfl
theorem Zvw (p:El Zc) (a:Int):∀(L:Lt) (j:Zgq),procOf (procsF Go.Proofs.Tryz.prog (clOf ZlY) ZkL Go.Proofs.Tryz.f18 Zik (toForms ZdO (p,a,()))) (Zc2 p a j).1 L (Zc2 p a j).2=(Zdh p a j).run (fun v=>some (Ziz v,tps (toForms ZdO (p,a,())))) fun j=>L (Zc2 p a j).1 (Zc2 p a j).2 | L,.l11 l back open_ meet meet1 back1 meet2 meet3 gone gone1=>by kernel_rfl | L,.l17 h l h1 back open_ meet meet1 back1 meet2 meet3 h2 gone gone1=>by kernel_rfl
end
end Go.Ev
end

section
namespace Go.Ev
open Go
theorem Zsl {t:Nat} {a:El Zb} :∀ {l:List (El Za)} {k:Nat},a∈accT t k l↔∃(j:Nat) (i:El Za),l[j]? =some i∧a∈accI t (k+j) i
 | [],k=>by simp[accT]
 | i :: r,k=>by
  unfold accT
  rw[List.mem_append,Zsl (l:=r)]
  constructor
  ·rintro (h | ⟨j,i',h1,h2⟩)
   ·exact ⟨0,i,rfl,h⟩
   ·exact ⟨j+1,i',by simpa using h1,by rw[show k+(j+1)=k+1+j by omega];exact h2⟩
  ·rintro ⟨j,i',h1,h2⟩
   cases j with
   | zero=>left;simp at h1;subst h1;exact h2
   | succ j=>right;exact ⟨j,i',by simpa using h1,by rw[show k+1+j=k+(j+1) by omega];exact h2⟩
theorem Zsf {t k:Nat} {i:El Za} {a:El Zb} :a∈accI t k i↔((ZaC i).2=true∧a=((t:Int),((k:Int),((0:Int),((ZaC i).1.2.2.1,(false,Z7 i))))))∨((Z8 i).2=true∧a=((t:Int),((k:Int),((if (ZaC i).2 then (1:Int) else 0),((Z8 i).1.2.2.1,(true,Z7 i)))))):=by
 unfold accI
 rw[List.mem_append]
 cases (ZaC i).2 <;> cases (Z8 i).2 <;> simp
theorem Zpd {t k:Nat} {i:El Za} {a:El Zb} (h:a∈accI t k i):(show Int from a.1)=(t:Int)∧(show Int from a.2.1)=(k:Int):=by
 rcases Zsf.1 h with ⟨_,rfl⟩ | ⟨_,rfl⟩ <;> exact ⟨rfl,rfl⟩
theorem Zsu {a:El Zb} :∀ {l:List (List (El Za))} {t:Nat},a∈accP t l↔∃(u:Nat) (x:List (El Za)) (j:Nat) (i:El Za),l[u]? =some x∧x[j]? =some i∧a∈accI (t+u) j i
 | [],t=>by simp[accP]
 | x :: r,t=>by
  unfold accP
  rw[List.mem_append,Zsl,Zsu (l:=r)]
  constructor
  ·rintro (⟨j,i,h1,h2⟩ | ⟨u,y,j,i,h1,h2,h3⟩)
   ·exact ⟨0,x,j,i,rfl,h1,by rw[Nat.zero_add] at h2;exact h2⟩
   ·exact ⟨u+1,y,j,i,by simpa using h1,h2,by rw[show t+(u+1)=t+1+u by omega];exact h3⟩
  ·rintro ⟨u,y,j,i,h1,h2,h3⟩
   cases u with
   | zero=>
    left
    simp at h1
    subst h1
    exact ⟨j,i,h2,by rw[Nat.zero_add];exact h3⟩
   | succ u=>right;exact ⟨u,y,j,i,by simpa using h1,h2,by rw[show t+1+u=t+(u+1) by omega];exact h3⟩
theorem Zps {p:El Zc} {a:El Zb} (h:a∈ofC p):∃(u:Nat) (x:List (El Za)) (j:Nat) (i:El Za),p.2[u]? =some x∧x[j]? =some i∧a∈accI u j i∧(show Int from a.1)=(u:Int)∧(show Int from a.2.1)=(j:Int):=by
 unfold ofC at h
 split at h
 ·obtain ⟨u,x,j,i,h1,h2,h3⟩:=Zsu.1 h
  rw[Nat.zero_add] at h3
  exact ⟨u,x,j,i,h1,h2,h3,(Zpd h3).1,(Zpd h3).2⟩
 ·cases h
def ltNX (t k q t' k' q':Int):Prop:=t < t'∨t=t'∧(k < k'∨k=k'∧q < q')
def ltAX (a b:El Zb):Prop:=ltNX a.1 a.2.1 a.2.2.1 b.1 b.2.1 b.2.2.1
theorem ZCJ (t k:Nat) (i:El Za):(accI t k i).Pairwise ltAX:=by
 unfold accI
 cases (ZaC i).2 <;> cases (Z8 i).2 <;> simp[List.pairwise_cons]
 exact .inr ⟨rfl,.inr ⟨rfl,by show (0:Int) < 1;omega⟩⟩
theorem ZBp {t:Nat} {l:List (El Za)} {k:Nat} {a:El Zb} (h:a∈accT t k l):∃(j:Nat) (i:El Za),l[j]? =some i∧a∈accI t (k+j) i∧(show Int from a.1)=(t:Int)∧(show Int from a.2.1)=((k+j:Nat):Int):=by
 obtain ⟨j,i,h1,h2⟩:=Zsl.1 h
 exact ⟨j,i,h1,h2,Zpd h2⟩
theorem Zy5 (t:Nat):∀(k:Nat) (l:List (El Za)),(accT t k l).Pairwise ltAX
 | _,[]=>.nil
 | k,i :: r=>by
  unfold accT
  refine List.pairwise_append.2 ⟨ZCJ t k i,Zy5 t (k+1) r,fun a ha b hb=>?_⟩
  obtain ⟨h1,h2⟩:=Zpd ha
  obtain ⟨j,_,_,_,h3,h4⟩:=ZBp hb
  have key:∀a1 a2 a3 b1 b2 b3:Int,a1=t→a2=k→b1=t→b2=((k+1+j:Nat):Int)→ltNX a1 a2 a3 b1 b2 b3:=fun a1 a2 a3 b1 b2 b3 e1 e2 e3 e4=>.inr ⟨by omega,.inl (by omega)⟩
  exact key _ _ _ _ _ _ h1 h2 h3 h4
theorem Zy2:∀(t:Nat) (l:List (List (El Za))),(accP t l).Pairwise ltAX
 | _,[]=>.nil
 | t,x :: r=>by
  unfold accP
  refine List.pairwise_append.2 ⟨Zy5 t 0 x,Zy2 (t+1) r,fun a ha b hb=>?_⟩
  obtain ⟨_,_,_,_,h1,_⟩:=ZBp ha
  obtain ⟨u,_,_,_,_,_,hb3⟩:=Zsu.1 hb
  have h3:=(Zpd hb3).1
  have key:∀a1 a2 a3 b1 b2 b3:Int,a1=t→b1=((t+1+u:Nat):Int)→ltNX a1 a2 a3 b1 b2 b3:=fun a1 a2 a3 b1 b2 b3 e1 e3=>.inl (by omega)
  exact key _ _ _ _ _ _ h1 h3
theorem ZE4 (p:El Zc):(ofC p).Pairwise ltAX:=by
 unfold ofC
 split
 ·exact Zy2 0 p.2
 ·exact .nil
theorem Zqd {t:List (El Za)} (h:smallThread t=true):flowOK t=true:=by
 have labs:∀ {t:List (El Za)} {i:El Za},i∈t→i.2.2.2.2.2.2.length≤(labels t).length:=fun {t i} hi=>by
  unfold labels
  induction t with
  | nil=>cases hi
  | cons x r ih=>
   rw[List.flatMap_cons,List.length_append]
   rcases List.mem_cons.1 hi with rfl | hi
   ·omega
   ·have:=ih hi;omega
 unfold smallThread at h
 simp only[Bool.and_eq_true,List.all_eq_true,decide_eq_true_eq] at h
 unfold flowOK
 simp only[Bool.and_eq_true,List.all_eq_true,decide_eq_true_eq]
 refine ⟨h.1,fun i hi=>⟨(h.2.2 i hi).1,?_⟩⟩
 have:=labs hi
 omega
end Go.Ev
end

section
open Go
namespace Go.Ev
noncomputable def Za1 (p:El Zc) (a:Int):List Int:=if 0≤a∧a < ((ofC p).length:Int) then listOf (ofC p).length (backB p (ofC p) a.toNat) else []
def ZeK (p:El Zc) (a:Int):Bool:=smallAll p
theorem ZwA {l:List Acc} {x:Nat} {own a:Int} :∀(n h:Nat) (s:SetT×List Int×SetT) (C B:Nat→Bool),l.length < 1099511627776→h+n≤l.length→SetOK s.1 l.length C→SetOK s.2.2 l.length B→
  ∃C' B',SetOK (meetF l (x:Int) own a (List.range' h n) s).1 l.length C'∧SetOK (meetF l (x:Int) own a (List.range' h n) s).2.2 l.length B'∧
   (∀j,C' j=true↔C j=true∨(h≤j∧j < h+n∧clB l x j=true∧thA l j≠own))∧(∀j,B' j=true↔B j=true∨(h≤j∧j < h+n∧clB l x j=true∧thA l j=own∧(x:Int)≠a))∧
   (∀y∈s.2.1,y∈(meetF l (x:Int) own a (List.range' h n) s).2.1)∧(∀y∈(meetF l (x:Int) own a (List.range' h n) s).2.1,y∈s.2.1∨∃j:Nat,y=(j:Int)∧C' j=true)∧
   (∀j,C' j=true→C j=true∨(j:Int)∈(meetF l (x:Int) own a (List.range' h n) s).2.1)∧(meetF l (x:Int) own a (List.range' h n) s).2.1.length+card l.length C=s.2.1.length+card l.length C'
 | 0,h,s,C,B,_,_,hC,hB=>⟨C,B,hC,hB,fun j=>⟨.inl,fun h=>h.elim id fun h=>by omega⟩,fun j=>⟨.inl,fun h=>h.elim id fun h=>by omega⟩,fun y hy=>hy,fun y hy=>.inl hy,fun j hj=>.inl hj,rfl⟩
 | n+1,h,s,C,B,hN,hn,hC,hB=>by
  rw[List.range'_succ,meetF]
  have hh:h < l.length:=by omega
  have one:∃C1 B1,SetOK (meet1 l (x:Int) own a h s).1 l.length C1∧SetOK (meet1 l (x:Int) own a h s).2.2 l.length B1∧(∀j,C1 j=true↔C j=true∨(j=h∧clB l x h=true∧thA l h≠own))∧(∀j,B1 j=true↔B j=true∨(j=h∧clB l x h=true∧thA l h=own∧(x:Int)≠a))∧
    (∀y∈s.2.1,y∈(meet1 l (x:Int) own a h s).2.1)∧(∀y∈(meet1 l (x:Int) own a h s).2.1,y∈s.2.1∨∃j:Nat,y=(j:Int)∧C1 j=true)∧(∀j,C1 j=true→C j=true∨(j:Int)∈(meet1 l (x:Int) own a h s).2.1)∧
    (meet1 l (x:Int) own a h s).2.1.length+card l.length C=s.2.1.length+card l.length C1:=by
   unfold meet1
   rw[Int.toNat_natCast]
   by_cases c1:clB l x h=true
   ·rw[if_pos c1]
    by_cases c2:thA l h=own
    ·rw[if_neg (by simp[c2])]
     by_cases c3:(x:Int)=a
     ·rw[if_neg (by simp[c3])]
      exact ⟨C,B,hC,hB,fun j=>⟨.inl,fun h=>h.elim id fun h=>absurd c2 h.2.2⟩,fun j=>⟨.inl,fun h=>h.elim id fun h=>absurd c3 h.2.2.2⟩,fun y hy=>hy,fun y hy=>.inl hy,fun j hj=>.inl hj,rfl⟩
     ·rw[if_pos c3]
      obtain ⟨_,p2⟩:=hB.putO (by omega) hh
      refine ⟨C,_,hC,p2,fun j=>⟨.inl,fun h=>h.elim id fun h=>absurd c2 h.2.2⟩,fun j=>?_,fun y hy=>hy,fun y hy=>.inl hy,fun j hj=>.inl hj,rfl⟩
      rw[Bool.or_eq_true,beq_iff_eq]
      exact or_congr Iff.rfl ⟨fun h=>⟨h,c1,c2,c3⟩,fun h=>h.1⟩
    ·rw[if_pos c2]
     obtain ⟨p1,p2⟩:=hC.putO (by omega) hh
     have hB':∀j,B j=true↔B j=true∨(j=h∧clB l x h=true∧thA l h=own∧(x:Int)≠a):=fun j=>⟨.inl,fun h=>h.elim id fun h=>absurd h.2.2.1 c2⟩
     have hC':∀j,(C j || (j==h))=true↔C j=true∨(j=h∧clB l x h=true∧thA l h≠own):=fun j=>by
      rw[Bool.or_eq_true,beq_iff_eq]
      exact or_congr Iff.rfl ⟨fun h=>⟨h,c1,c2⟩,fun h=>h.1⟩
     refine ⟨_,B,p2,hB,hC',hB',?_⟩
     cases hCh:C h with
     | true=>
      rw[hCh] at p1
      rw[if_neg (by rw[p1];decide)]
      have e:(fun k=>C k || (k==h))=C:=funext fun k=>by
       by_cases hk:k=h
       ·subst hk;rw[hCh];rfl
       ·have:(k==h)=false:=by simpa using hk
        rw[this,Bool.or_false]
      refine ⟨fun y hy=>hy,fun y hy=>.inl hy,fun j hj=>.inl ?_,by rw[e]⟩
      have:=congrFun e j
      rw[←this];exact hj
     | false=>
      rw[hCh] at p1
      rw[if_pos (by rw[p1];rfl)]
      refine ⟨fun y hy=>List.mem_append_left _ hy,fun y hy=>?_,fun j hj=>?_,?_⟩
      ·rcases List.mem_append.1 hy with hy | hy
       ·exact .inl hy
       ·simp only[List.mem_singleton] at hy
        exact .inr ⟨h,hy,by simp⟩
      ·rw[Bool.or_eq_true,beq_iff_eq] at hj
       rcases hj with hj | rfl
       ·exact .inl hj
       ·exact .inr (List.mem_append_right _ (by simp))
      ·rw[ZpJ hCh hh,List.length_append,List.length_singleton]
       omega
   ·rw[if_neg c1]
    exact ⟨C,B,hC,hB,fun j=>⟨.inl,fun h=>h.elim id fun h=>absurd h.2.1 c1⟩,fun j=>⟨.inl,fun h=>h.elim id fun h=>absurd h.2.1 c1⟩,fun y hy=>hy,fun y hy=>.inl hy,fun j hj=>.inl hj,rfl⟩
  obtain ⟨C1,B1,a1,a2,a3,a4,a5,a6,a7,a8⟩:=one
  obtain ⟨C2,B2,b1,b2,b3,b4,b5,b6,b7,b8⟩:=ZwA n (h+1) (meet1 l (x:Int) own a h s) C1 B1 hN (by omega) a1 a2
  refine ⟨C2,B2,b1,b2,fun j=>?_,fun j=>?_,fun y hy=>b5 y (a5 y hy),fun y hy=>?_,fun j hj=>?_,by omega⟩
  ·rw[b3,a3,or_assoc]
   refine or_congr Iff.rfl ⟨?_,?_⟩
   ·rintro (⟨rfl,h1⟩ | ⟨h1,h2,h3⟩)
    ·exact ⟨Nat.le_refl _,by omega,h1⟩
    ·exact ⟨by omega,by omega,h3⟩
   ·rintro ⟨h1,h2,h3⟩
    by_cases e:j=h
    ·subst e;exact .inl ⟨rfl,h3⟩
    ·exact .inr ⟨by omega,by omega,h3⟩
  ·rw[b4,a4,or_assoc]
   refine or_congr Iff.rfl ⟨?_,?_⟩
   ·rintro (⟨rfl,h1⟩ | ⟨h1,h2,h3⟩)
    ·exact ⟨Nat.le_refl _,by omega,h1⟩
    ·exact ⟨by omega,by omega,h3⟩
   ·rintro ⟨h1,h2,h3⟩
    by_cases e:j=h
    ·subst e;exact .inl ⟨rfl,h3⟩
    ·exact .inr ⟨by omega,by omega,h3⟩
  ·rcases b6 y hy with h1 | h1
   ·rcases a6 y h1 with h2 | ⟨j,h2,h3⟩
    ·exact .inl h2
    ·exact .inr ⟨j,h2,(b3 j).2 (.inl h3)⟩
   ·exact .inr h1
  ·rcases b7 j hj with h1 | h1
   ·rcases a7 j h1 with h2 | h2
    ·exact .inl h2
    ·exact .inr (b5 _ h2)
   ·exact .inr h1
structure BInv (p:El Zc) (l:List Acc) (a:Nat) (C G B:Nat→Bool) (O:List Int):Prop where
 c:∀c,C c=true↔c < l.length∧thA l c≠thA l a∧(clB l a c=true∨∃k,G k=true∧clB l k c=true)
 g:∀d,G d=true→∃c,C c=true∧behB p l c d=true
 o:∀x∈O,∃c:Nat,x=(c:Int)∧C c=true
 b:∀b,B b=true↔b < l.length∧thA l b=thA l a∧∃k,G k=true∧clB l k b=true
 s:∀d,G d=true→isB p l a d=true
theorem BInv.is {p:El Zc} {l:List Acc} {a:Nat} {C G B:Nat→Bool} {O:List Int} (h:BInv p l a C G B O) {c:Nat} (hc:C c=true):isB p l a c=true:=by
 obtain ⟨h1,h2,h3⟩:=(h.c c).1 hc
 rcases h3 with h3 | ⟨k,hk,h3⟩
 ·exact Zd7.2 (.start (by unfold chS;rw[decide_eq_true h1,h3];rfl))
 ·refine Zd7.2 (.step (Zd7.1 (h.s k hk)) ?_)
  unfold chB
  simp only[Bool.and_eq_true,decide_eq_true_eq,Bool.not_eq_true',beq_eq_false_iff_ne,Bool.or_eq_true]
  exact ⟨h1,h2,.inl h3⟩
theorem BInv.meet {p:El Zc} {l:List Acc} {a d:Nat} {C G B C' B':Nat→Bool} {O O':List Int} {c:Nat} (h:BInv p l a C G B O) (hc:C c=true) (hd:behB p l c d=true) (hl:d < l.length)
  (hC:∀j,C' j=true↔C j=true∨(0≤j∧j < 0+l.length∧clB l d j=true∧thA l j≠thA l a)) (hB:∀j,B' j=true↔B j=true∨(0≤j∧j < 0+l.length∧clB l d j=true∧thA l j=thA l a∧(d:Int)≠(a:Int)))
  (hO:∀y∈O',y∈O∨∃j:Nat,y=(j:Int)∧C' j=true):BInv p l a C' (fun k=>G k || (k==d)) B' O':=by
 have hth:=ZDa hd
 have hne:=((h.c c).1 hc).2.1
 have hdis:isB p l a d=true:=by
  refine Zd7.2 (.step (Zd7.1 (h.is hc)) ?_)
  unfold chB
  simp only[Bool.and_eq_true,decide_eq_true_eq,Bool.not_eq_true',beq_eq_false_iff_ne,Bool.or_eq_true]
  exact ⟨hl,by rw[hth.2];exact hne,.inr hd⟩
 have hg:∀k,(G k || (k==d))=true↔G k=true∨k=d:=fun k=>by rw[Bool.or_eq_true,beq_iff_eq]
 refine ⟨fun j=>?_,fun j hj=>?_,fun y hy=>?_,fun j=>?_,fun j hj=>?_⟩
 ·rw[hC,h.c]
  constructor
  ·rintro (⟨h1,h2,h3⟩ | ⟨_,h1,h2,h3⟩)
   ·exact ⟨h1,h2,h3.imp id fun ⟨k,hk,h4⟩=>⟨k,(hg k).2 (.inl hk),h4⟩⟩
   ·exact ⟨by omega,h3,.inr ⟨d,(hg d).2 (.inr rfl),h2⟩⟩
  ·rintro ⟨h1,h2,h3⟩
   rcases h3 with h3 | ⟨k,hk,h3⟩
   ·exact .inl ⟨h1,h2,.inl h3⟩
   ·rcases (hg k).1 hk with hk | rfl
    ·exact .inl ⟨h1,h2,.inr ⟨k,hk,h3⟩⟩
    ·exact .inr ⟨Nat.zero_le _,by omega,h3,h2⟩
 ·rcases (hg j).1 hj with hj | rfl
  ·obtain ⟨c',h1,h2⟩:=h.g j hj
   exact ⟨c',(hC c').2 (.inl h1),h2⟩
  ·exact ⟨c,(hC c).2 (.inl hc),hd⟩
 ·rcases hO y hy with hy | hy
  ·obtain ⟨c',h1,h2⟩:=h.o y hy
   exact ⟨c',h1,(hC c').2 (.inl h2)⟩
  ·exact hy
 ·rw[hB,h.b]
  constructor
  ·rintro (⟨h1,h2,k,hk,h3⟩ | ⟨_,h1,h2,h3,_⟩)
   ·exact ⟨h1,h2,k,(hg k).2 (.inl hk),h3⟩
   ·exact ⟨by omega,h3,d,(hg d).2 (.inr rfl),h2⟩
  ·rintro ⟨h1,h2,k,hk,h3⟩
   rcases (hg k).1 hk with hk | rfl
   ·exact .inl ⟨h1,h2,k,hk,h3⟩
   ·refine .inr ⟨Nat.zero_le _,by omega,h3,h2,fun e=>hne ?_⟩
    have:k=a:=by omega
    subst this
    rw[←hth.2]
 ·rcases (hg j).1 hj with hj | rfl
  ·exact h.s j hj
  ·exact hdis
theorem Zxx (p:El Zc) (a:Int) (hk:ZeK p a=true):Goes (Zdh p a) (Zj9 p a) (Za1 p a):=by
 have hA:=smallA hk
 have hNl:=ZFe hk
 have kt:ZjJ p=true:=hk
 have vt:Zt p=ofC p:=rfl
 have hacc:∀c,c < (ofC p).length→0≤thA (ofC p) c∧thA (ofC p) c < (p.2.length:Int)∧flowOK (thrOf p (ofC p) c)=true:=fun c hc=>by
  have hm:accA (ofC p) c∈ofC p:=by unfold accA;rw[Z4 hc];exact List.getElem_mem hc
  obtain ⟨u,x,j,i,h1,h2,h3,h4,h5⟩:=Zps hm
  have hth:thA (ofC p) c=(u:Int):=h4
  have hu:=(List.getElem?_eq_some_iff.1 h1).1
  have hx:x∈p.2:=List.mem_of_getElem? h1
  refine ⟨by omega,by omega,?_⟩
  unfold thrOf
  rw[hth,Int.toNat_natCast,List.getD_eq_getElem?_getD,h1]
  exact Zqd (hA.thr x hx)
 obtain ⟨l,hl⟩:∃l,ofC p=l:=⟨_,rfl⟩
 rw[hl] at hNl vt hacc
 obtain ⟨T,hT⟩:∃T,T=Zdh p a:=⟨_,rfl⟩
 rw[←hT]
 unfold Zj9 Za1
 rw[Zf,if_pos kt,vt,hl,Zf]
 by_cases h0:a < 0
 ·rw[if_pos (decide_eq_true h0),if_neg (by omega)];exact .leaf
 rw[if_neg (by simpa using h0),Zf]
 by_cases h1:a≥Int.ofNat l.length
 ·rw[if_pos (decide_eq_true h1),if_neg (by simp at h1;omega)];exact .leaf
 obtain ⟨a,rfl⟩:=Int.eq_ofNat_of_zero_le (show 0≤a by omega)
 have ha:a < l.length:=by simp at h1;omega
 rw[if_neg (by simpa using h1),Zf,if_pos (ZaP ha),Zf,Int.toNat_natCast]
 have hval:(if (0:Int)≤(a:Int)∧(a:Int) < (l.length:Int) then listOf l.length (backB p l a) else [])=listOf l.length (backB p l a):=if_pos ⟨by omega,by omega⟩
 rw[hval]
 have hown:(List.getD l a (dflt Zb)).1=thA l a:=rfl
 have hnew:Zq (Int.ofNat l.length)=(((l.length:Nat):Int),[]):=by
  unfold Zq
  simp
  omega
 rw[hown,hnew]
 have kb:∀(x:Nat) (come:SetT) (o:List Int) (b:SetT),x < l.length→o.length < 1099511627776→Zd1 (x:Int) l (thA l a) come o (a:Int) b=true:=fun x come o b hx ho=>decide_eq_true ⟨by omega,by omega,by omega,ho⟩
 have fin:∀(C G B:Nat→Bool) (sc sg sb:SetT),SetOK sb l.length B→BInv p l a C G B []→
   (∀c,C c=true→(c:Int)∈([]:List Int)∨∀d,behB p l c d=true→G d=true)→Goes T (.jmp (.l11 l sb.1 [] (thA l a) (a:Int) sb.2 sc.1 sc.2 sg.1 sg.2)) (listOf l.length (backB p l a)):=by
  intro C G B sc sg sb hb hi hp
  rw[Zn,hT,Zdh,←hT,Zf,if_neg (by decide)]
  have hkl:ZaH (sb.1,sb.2)=true:=Nat.ble_eq_true_of_le (by have:=hb.few;unfold limit;show sb.2.length*512≤_;omega)
  rw[Zf,if_pos hkl]
  have hGi:∀d,G d=isB p l a d:=ZEN hi.c (fun d=>⟨hi.g d,fun ⟨c,h1,h2⟩=>(hp c h1).elim (fun h=>by cases h) fun h=>h d h2⟩) hi.s
  have hv:(ZaY (sb.1,sb.2)).1=listOf l.length (backB p l a):=by
   show listS sb=_
   rw[hb.list (by omega)]
   refine ZlP fun j hj=>?_
   unfold backB
   rw[Bool.eq_iff_iff,hi.b,Bool.and_eq_true,beq_iff_eq,List.any_eq_true]
   constructor
   ·rintro ⟨_,h2,k,hk,h3⟩
    rw[hGi] at hk
    exact ⟨h2,k,List.mem_range.2 (ZFD hk).1,by rw[hk,h3];rfl⟩
   ·rintro ⟨h2,k,_,h3⟩
    rw[Bool.and_eq_true] at h3
    exact ⟨hj,h2,k,by rw[hGi];exact h3.1,h3.2⟩
  rw[hv]
  exact .leaf
 have loop:∀m,∀(C G B:Nat→Bool) (sc sg sb:SetT) (O:List Int),2*(l.length - card l.length C)+O.length≤m→O.length≤card l.length C→SetOK sc l.length C→SetOK sg l.length G→SetOK sb l.length B→BInv p l a C G B O→
   (∀c,C c=true→(c:Int)∈O∨∀d,behB p l c d=true→G d=true)→Goes T (.jmp (.l11 l sb.1 O (thA l a) (a:Int) sb.2 sc.1 sc.2 sg.1 sg.2)) (listOf l.length (backB p l a)):=by
  intro m
  induction m with
  | zero=>
   intro C G B sc sg sb O hm hO1 hc hg hb hi hp
   have:O=[]:=List.eq_nil_of_length_eq_zero (by omega)
   subst this
   exact fin C G B sc sg sb hb hi hp
  | succ m ih=>
   intro C G B sc sg sb O hm hO1 hc hg hb hi hp
   cases O with
   | nil=>exact fin C G B sc sg sb hb hi hp
   | cons x O=>
    obtain ⟨c,rfl,hCc⟩:=hi.o x (by simp)
    have hcl:=((hi.c c).1 hCc).1
    have hcard:= @Zfa l.length C
    obtain ⟨q1,q2,q3⟩:=hacc c hcl
    have kbh:ZcF p l (c:Int)=true:=by
     unfold ZcF
     rw[Int.toNat_natCast,q3,decide_eq_true ⟨by omega,by omega,by omega⟩,decide_eq_true ⟨q1,q2⟩];rfl
    have e0:List.getD ((c:Int) :: O) 0 (dflt (.int .i64))=(c:Int):=rfl
    have g1:decide (Int.ofNat ((c:Int) :: O).length > (0:Int))=true:=decide_eq_true (by simp <;> omega)
    have g2:decide ((0:Int) < Int.ofNat ((c:Int) :: O).length)=true:=decide_eq_true (by simp <;> omega)
    have g3:Nat.ble 1 ((c:Int) :: O).length=true:=Nat.ble_eq_true_of_le (by simp)
    rw[Zn,hT,Zdh,←hT,Zf,if_pos g1,Zf,if_pos g2,Zf,if_pos g3,e0,Zf,if_pos kbh]
    obtain ⟨L,hL⟩:∃L,Za9 p l (c:Int)=L:=⟨_,rfl⟩
    have hLm:∀y,y∈L↔∃d:Nat,d < l.length∧behB p l c d=true∧y=(d:Int):=fun y=>by rw[←hL];unfold Za9;rw[Int.toNat_natCast];exact Zbq
    have hLl:L.length≤l.length:=by rw[←hL];unfold Za9;rw[Zfr];exact Zfa
    rw[hL,show List.drop 1 ((c:Int) :: O)=O from rfl]
    have inner:∀h,h≤L.length→∀(C G B:Nat→Bool) (sc sg sb:SetT) (O:List Int),2*(l.length - card l.length C)+O.length≤m→O.length≤card l.length C→SetOK sc l.length C→SetOK sg l.length G→SetOK sb l.length B→BInv p l a C G B O→C c=true→
      (∀c',C c'=true→c'≠c→(c':Int)∈O∨∀d,behB p l c' d=true→G d=true)→(∀d,behB p l c d=true→G d=true∨(d:Int)∈L.drop h)→
      Goes T (.jmp (.l17 (Int.ofNat L.length) l L sb.1 O (thA l a) (a:Int) sb.2 sc.1 sc.2 (h:Int) sg.1 sg.2)) (listOf l.length (backB p l a)):=by
     refine down ?_ fun h hh ih2=>?_
     ·intro C G B sc sg sb O hm hO1 hc hg hb hi hCc hp hcur
      rw[Zn,hT,Zdh,←hT,Zf,if_neg (by simp)]
      refine ih C G B sc sg sb O hm hO1 hc hg hb hi fun c' hc'=>?_
      by_cases e:c'=c
      ·subst e
       right
       intro d hd
       rcases hcur d hd with h1 | h1
       ·exact h1
       ·rw[List.drop_length] at h1;cases h1
      ·exact hp c' hc' e
     ·intro C G B sc sg sb O hm hO1 hc hg hb hi hCc hp hcur
      obtain ⟨d,hd,hbd,hde⟩:=(hLm L[h]).1 (List.getElem_mem hh)
      have hcard:= @Zfa l.length C
      obtain ⟨p1,p2⟩:=hg.putO (by omega) hd
      have hput:Zl (sg.1,sg.2) (d:Int)=putS sg (d:Int):=rfl
      have hkb:=kb d (sc.1,sc.2) O (sb.1,sb.2) hd (by omega)
      rw[Zn,hT,Zdh,←hT,Zf,if_pos (ZaK hh),Zf,if_pos (ZaP hh),Int.toNat_natCast,Z4 hh,hde,hput,Zz (by omega),Zf]
      have hdrop:=Z3 hh
      cases hGd:G d with
      | true=>
       rw[hGd] at p1
       rw[if_neg (by rw[p1];decide)]
       have e:∀k,(G k || (k==d))=G k:=fun k=>by
        by_cases hk:k=d
        ·subst hk;rw[hGd];rfl
        ·have:(k==d)=false:=by simpa using hk
         rw[this,Bool.or_false]
       refine ih2 C G B sc _ sb O hm hO1 hc (p2.congr' e) hb hi hCc hp fun d' hd'=>?_
       rcases hcur d' hd' with h1 | h1
       ·exact .inl h1
       ·rw[hdrop] at h1
        rcases List.mem_cons.1 h1 with h1 | h1
        ·rw[hde] at h1
         have:d'=d:=by omega
         subst this
         exact .inl hGd
        ·exact .inr h1
      | false=>
       rw[hGd] at p1
       rw[if_pos (by rw[p1];rfl),Zf,if_pos hkb]
       obtain ⟨C',B',b1,b2,b3,b4,b5,b6,b7,b8⟩:=ZwA (l:=l) (x:=d) (own:=thA l a) (a:=(a:Int)) l.length 0 (sc,O,sb) C B (by omega) (by omega) hc hb
       have hv:ZE (d:Int) l (thA l a) (sc.1,sc.2) O (a:Int) (sb.1,sb.2)=(l,thA l a,(meetF l (d:Int) (thA l a) (a:Int) (List.range' 0 l.length) (sc,O,sb)).1,(meetF l (d:Int) (thA l a) (a:Int) (List.range' 0 l.length) (sc,O,sb)).2.1,(a:Int),(meetF l (d:Int) (thA l a) (a:Int) (List.range' 0 l.length) (sc,O,sb)).2.2):=rfl
       rw[hv]
       generalize meetF l (d:Int) (thA l a) (a:Int) (List.range' 0 l.length) (sc,O,sb)=R at*
       have hi':=hi.meet (O':=R.2.1) hCc hbd hd b3 b4 b6
       have hcl2:= @Zfa l.length C'
       simp only at b5 b6 b7 b8
       have b8':R.2.1.length+card l.length C=O.length+card l.length C':=b8
       have hcm:card l.length C≤card l.length C':=ZxX fun j h=>(b3 j).2 (.inl h)
       have m1:2*(l.length - card l.length C')+R.2.1.length≤m:=by omega
       have m2:R.2.1.length≤card l.length C':=by omega
       refine ih2 C' _ B' R.1 _ R.2.2 R.2.1 m1 m2 b1 p2 b2 hi' ((b3 c).2 (.inl hCc)) (fun c' hc' hne=>?_) fun d' hd'=>?_
       ·rcases b7 c' hc' with h1 | h1
        ·rcases hp c' h1 hne with h2 | h2
         ·exact .inl (b5 _ h2)
         ·exact .inr fun d'' hd''=>by rw[h2 d'' hd''];rfl
        ·exact .inl h1
       ·rcases hcur d' hd' with h1 | h1
        ·left;rw[h1];rfl
        ·rw[hdrop] at h1
         rcases List.mem_cons.1 h1 with h1 | h1
         ·rw[hde] at h1
          have:d'=d:=by omega
          subst this
          left;simp
         ·exact .inr h1
    refine inner 0 (Nat.zero_le _) C G B sc sg sb O (by simp at hm;omega) (by simp at hO1;omega) hc hg hb ⟨hi.c,hi.g,fun y hy=>hi.o y (List.mem_cons_of_mem _ hy),hi.b,hi.s⟩ hCc (fun c' hc' hne=>?_) fun d hd=>?_
    ·rcases hp c' hc' with h1 | h1
     ·rcases List.mem_cons.1 h1 with h1 | h1
      ·exact absurd (by omega) hne
      ·exact .inl h1
     ·exact .inr h1
    ·exact .inr (by rw[List.drop_zero];exact (hLm _).2 ⟨d,(ZDa hd).1,hd,rfl⟩)
 rw[if_pos (kb a _ [] _ ha (by simp))]
 obtain ⟨C',B',b1,b2,b3,b4,b5,b6,b7,b8⟩:=ZwA (l:=l) (x:=a) (own:=thA l a) (a:=(a:Int)) l.length 0 ((((l.length:Nat):Int),[]),[],(((l.length:Nat):Int),[])) (fun _=>false) (fun _=>false) (by omega) (by omega) (SetOK.new _) (SetOK.new _)
 have hv:ZE (a:Int) l (thA l a) (((l.length:Nat):Int),[]) [] (a:Int) (((l.length:Nat):Int),[])=(l,thA l a,(meetF l (a:Int) (thA l a) (a:Int) (List.range' 0 l.length) ((((l.length:Nat):Int),[]),[],(((l.length:Nat):Int),[]))).1,(meetF l (a:Int) (thA l a) (a:Int) (List.range' 0 l.length) ((((l.length:Nat):Int),[]),[],(((l.length:Nat):Int),[]))).2.1,(a:Int),(meetF l (a:Int) (thA l a) (a:Int) (List.range' 0 l.length) ((((l.length:Nat):Int),[]),[],(((l.length:Nat):Int),[]))).2.2):=rfl
 rw[hv]
 generalize meetF l (a:Int) (thA l a) (a:Int) (List.range' 0 l.length) ((((l.length:Nat):Int),[]),[],(((l.length:Nat):Int),[]))=R at*
 simp only at b5 b6 b7 b8
 have hcl2:= @Zfa l.length C'
 have h00:card l.length (fun _=>false)=0:=by unfold card;simp
 rw[h00] at b8
 refine loop _ C' (fun _=>false) B' R.1 (((l.length:Nat):Int),[]) R.2.2 R.2.1 (Nat.le_refl _) (by simp at b8;omega) b1 (SetOK.new _) b2 ⟨fun c=>?_,fun d hd=>(by cases hd),fun y hy=>?_,fun b=>?_,fun d hd=>(by cases hd)⟩ fun c hc=>?_
 ·rw[b3]
  constructor
  ·rintro (h | ⟨_,h1,h2,h3⟩)
   ·cases h
   ·exact ⟨by omega,h3,.inl h2⟩
  ·rintro ⟨h1,h2,h3 | ⟨k,hk,_⟩⟩
   ·exact .inr ⟨Nat.zero_le _,by omega,h3,h2⟩
   ·cases hk
 ·rcases b6 y hy with h | h
  ·cases h
  ·exact h
 ·rw[b4]
  constructor
  ·rintro (h | ⟨_,_,_,_,h⟩)
   ·cases h
   ·exact absurd rfl h
  ·rintro ⟨_,_,k,hk,_⟩
   cases hk
 ·rcases b7 c hc with h | h
  ·cases h
  ·exact .inl h
end Go.Ev
end

section
open Go Go.Ev
namespace Go.Ev
noncomputable section
noncomputable def ZqO:Run:=entG ZdO Ziz (fun a=>ZeK a.1 a.2.1) (fun a=>Za1 a.1 a.2.1)
theorem ZwC:EntOK Go.Proofs.Tryz.prog 18 ZqO:=Zao (tb:=ZkL) (c:=Zik) Zvd (by kernel_rfl) (by kernel_rfl) (by kernel_rfl) (fun a=>by kernel_rfl) fun ⟨p,a,_⟩ hk=>Zp (c:=Zik) (K:=fun v=>(Ziz v,tps (toForms ZdO (p,a,())))) (S:=Zc2 p a) (by kernel_rfl) (Zw1 p a) (Zvw p a) (Zxx p a hk)
end
end Go.Ev
end

section
open Go Go.Ev
namespace Go.Ev
noncomputable section
def dpB:Code:=Go.Proofs.Tryz.f6.body.getD .skip
def lpR1 (K:Code):Code:=fstC (innC (innC K))
def lpB (K:Code):Code:=innC (fstC (sndC (sndC (innC (innC K)))))
def lpR2 (K:Code):Code:=sndC (sndC (sndC (innC (innC K))))
def dp0:Code:=fstC dpB
def dp1:Code:=fstC (sndC dpB)
def dp2:Code:=fstC (sndC (sndC dpB))
def dp3:Code:=fstC (fstC (sndC (sndC (sndC dpB))))
def dpK0:Code:=sndC (fstC (sndC (sndC (sndC dpB))))
def dpE:Code:=fstC (sndC (sndC (sndC (sndC dpB))))
def dpT:Tbl:=[(12,ZpZ),(13,Zpl),(14,Zhm),(15,Zoh),(16,ZbJ),(17,ZdV),(18,ZqO)]
theorem ZFk:∀p∈dpT,EntOK Go.Proofs.Tryz.prog p.1 p.2:=Zi ZrN (Zi Zts (Zi ZhM (Zi ZqL (Zi Zbj (Zi Zdg (Zi ZwC (Zu)))))))
theorem ZFv:dpB=.seq dp0 (.seq dp1 (.seq dp2 (.seq (.seq dp3 dpK0) (.seq dpE .ret)))):=by kernel_rfl
theorem ZE9:dpK0=.block 0 (.loop (.seq (lpR1 dpK0) (.seq (.cond (.tmp 23) .skip (.exit 0)) (.seq (.block 1 (lpB dpK0)) (lpR2 dpK0))))):=by kernel_rfl
def dp4:Code:=fstC (lpB dpK0)
def dp5:Code:=fstC (sndC (lpB dpK0))
def dp6:Code:=fstC (sndC (sndC (lpB dpK0)))
def dpK2:Code:=sndC (sndC (sndC (lpB dpK0)))
theorem ZE1:lpB dpK0=.seq dp4 (.seq (.region (ridC dp5) (ropsC dp5) false) (.seq dp6 dpK2)):=by kernel_rfl
theorem ZET:dpK2=.block 2 (.loop (.seq (lpR1 dpK2) (.seq (.cond (.tmp 32) .skip (.exit 2)) (.seq (.block 3 (lpB dpK2)) (lpR2 dpK2))))):=by kernel_rfl
def dp7:Code:=fstC (lpB dpK2)
def dp8:Code:=fstC (sndC (lpB dpK2))
def dp9:Code:=fstC (fstC (sndC (sndC (lpB dpK2))))
def dpK4:Code:=sndC (fstC (sndC (sndC (lpB dpK2))))
def dp10:Code:=fstC (sndC (sndC (sndC (lpB dpK2))))
def dpK6:Code:=sndC (sndC (sndC (sndC (lpB dpK2))))
theorem ZEU:lpB dpK2=.seq dp7 (.seq dp8 (.seq (.seq dp9 dpK4) (.seq dp10 dpK6))):=by kernel_rfl
theorem ZFb:dpK4=.block 4 (.loop (.seq (lpR1 dpK4) (.seq (.cond (.tmp 56) .skip (.exit 4)) (.seq (.block 5 (lpB dpK4)) (lpR2 dpK4))))):=by kernel_rfl
theorem ZE2:dpK6=.block 6 (.loop (.seq (lpR1 dpK6) (.seq (.cond (.tmp 68) .skip (.exit 6)) (.seq (.block 7 (lpB dpK6)) (lpR2 dpK6))))):=by kernel_rfl
def dp11:Code:=fstC (lpB dpK6)
def dp12:Code:=fstC (fstC (sndC (lpB dpK6)))
def dpX1:Code:=fstC (sndC (sndC (lpB dpK6)))
def dp13:Code:=fstC dpX1
def dpY:Code:=thenC (sndC dpX1)
def dp14:Code:=fstC dpY
def dp15:Code:=fstC (sndC dpY)
def dpK8:Code:=sndC (sndC dpY)
def dp16:Code:=fstC (sndC (sndC (sndC (lpB dpK6))))
def dp17:Code:=thenC (sndC (sndC (sndC (sndC (lpB dpK6)))))
theorem ZE7:lpB dpK6=.seq dp11 (.seq (.seq dp12 (.cond (.tmp 78) (.exit 7) .skip)) (.seq (.seq (.region (ridC dp13) (ropsC dp13) false) (.cond (.tmp 82) (.seq (.region (ridC dp14) (ropsC dp14) false) (.seq dp15 dpK8)) .skip)) (.seq (.region (ridC dp16) (ropsC dp16) false) (.cond (.tmp 106) dp17 .skip)))):=by kernel_rfl
theorem ZFa:dpK8=.block 8 (.loop (.seq (lpR1 dpK8) (.seq (.cond (.tmp 93) .skip (.exit 8)) (.seq (.block 9 (lpB dpK8)) (lpR2 dpK8))))):=by kernel_rfl
def dp18:Code:=fstC (lpB dpK8)
def dp19:Code:=sndC (lpB dpK8)
theorem ZFh:lpB dpK8=.seq dp18 (.region (ridC dp19) (ropsC dp19) false):=by kernel_rfl
abbrev SetD:=Int×List (El (.int .i64)×El (.int .u64))
def dObP (p:El Zc):Id×Nat×Obj:=(2,0,.box 27 [.d (.sl ZJ) p.1,.d (.sl (.sl Za)) p.2] none)
def dObO (out:List (El Zg)):Id×Nat×Obj:=(5,0,.row 66 Zg out false)
def stA (p:El Zc) (l:List (El Zb)) (out:List (El Zg)) (t:Int):St:=
 ⟨mkTm 126 [(1,.pt 2 0 0),(3,.d (.sl Zb) l),(4,.own 5 0 none),(21,.d (.int .i64) (Int.ofNat (List.length p.2))),(22,.d (.int .i64) t)],[dObP p,dObO out]⟩
def labA:Lab:=⟨[1,3,4,21,22],[(5,78)]⟩
def stA5 (p:El Zc) (l:List (El Zb)) (out:List (El Zg)) (t:Int):St:=
 ⟨mkTm 126 [(1,.pt 2 0 0),(3,.d (.sl Zb) l),(4,.own 5 0 none),(5,.d (.int .i64) t),(21,.d (.int .i64) (Int.ofNat (List.length p.2))),(22,.d (.int .i64) t)],[dObP p,dObO out]⟩
def labA5:Lab:=⟨[1,3,4,5,21,22],[(5,78)]⟩
def stB (p:El Zc) (l:List (El Zb)) (out:List (El Zg)) (t:Int) (m:Nat) (ss:List Int) (k:Int):St:=
 ⟨mkTm 126 [(1,.pt 2 0 0),(3,.d (.sl Zb) l),(4,.own 5 0 none),(5,.d (.int .i64) t),(7,.cst (.map (some m))),(21,.d (.int .i64) (Int.ofNat (List.length p.2))),(22,.d (.int .i64) t),(29,.own 30 0 none),(30,.d (.int .i64) (Int.ofNat (List.length ss))),(31,.d (.int .i64) k)],[dObP p,dObO out,(30,0,.row 3 (.int .i64) ss false)]⟩
def labB:Lab:=⟨[1,3,4,5,7,21,22,29,30,31],[(5,78)]⟩
def stB9 (p:El Zc) (l:List (El Zb)) (out:List (El Zg)) (t:Int) (m:Nat) (ss:List Int) (k s:Int):St:=
 ⟨mkTm 126 [(1,.pt 2 0 0),(3,.d (.sl Zb) l),(4,.own 5 0 none),(5,.d (.int .i64) t),(7,.cst (.map (some m))),(9,.d (.int .i64) s),(21,.d (.int .i64) (Int.ofNat (List.length p.2))),(22,.d (.int .i64) t),(29,.own 30 0 none),(30,.d (.int .i64) (Int.ofNat (List.length ss))),(31,.d (.int .i64) k)],[dObP p,dObO out,(30,0,.row 3 (.int .i64) ss false)]⟩
def labB9:Lab:=⟨[1,3,4,5,7,9,21,22,29,30,31],[(5,78)]⟩
def stB10 (p:El Zc) (l:List (El Zb)) (out:List (El Zg)) (t:Int) (m:Nat) (ss:List Int) (k s:Int) (fr:SetD):St:=
 ⟨mkTm 126 [(1,.pt 2 0 0),(3,.d (.sl Zb) l),(4,.own 5 0 none),(5,.d (.int .i64) t),(7,.cst (.map (some m))),(9,.d (.int .i64) s),(10,.pt 11 0 0),(21,.d (.int .i64) (Int.ofNat (List.length p.2))),(22,.d (.int .i64) t),(29,.own 30 0 none),(30,.d (.int .i64) (Int.ofNat (List.length ss))),(31,.d (.int .i64) k)],[dObP p,dObO out,(11,0,.box 78 [.d (.int .i64) fr.1,.mp 11266 0] none),(30,0,.row 3 (.int .i64) ss false),(11266,0,.map (.int .i64) (.int .u64) fr.2)]⟩
def labB10:Lab:=⟨[1,3,4,5,7,9,10,21,22,29,30,31],[(5,78)]⟩
def stC (p:El Zc) (l:List (El Zb)) (out:List (El Zg)) (t:Int) (m:Nat) (ss:List Int) (k s:Int) (fr:SetD) (fs:List Int) (j:Int):St:=
 ⟨mkTm 126 [(1,.pt 2 0 0),(3,.d (.sl Zb) l),(4,.own 5 0 none),(5,.d (.int .i64) t),(7,.cst (.map (some m))),(9,.d (.int .i64) s),(10,.pt 11 0 0),(21,.d (.int .i64) (Int.ofNat (List.length p.2))),(22,.d (.int .i64) t),(29,.own 30 0 none),(30,.d (.int .i64) (Int.ofNat (List.length ss))),(31,.d (.int .i64) k),(53,.own 54 0 none),(54,.d (.int .i64) (Int.ofNat (List.length fs))),(55,.d (.int .i64) j)],[dObP p,dObO out,(11,0,.box 78 [.d (.int .i64) fr.1,.mp 11266 0] none),(30,0,.row 3 (.int .i64) ss false),(54,0,.row 3 (.int .i64) fs false),(11266,0,.map (.int .i64) (.int .u64) fr.2)]⟩
def labC:Lab:=⟨[1,3,4,5,7,9,10,21,22,29,30,31,53,54,55],[(5,78)]⟩
def stD (p:El Zc) (l:List (El Zb)) (out:List (El Zg)) (t:Int) (m:Nat) (ss:List Int) (k s:Int) (fr:SetD) (ls:List Int) (j:Int):St:=
 ⟨mkTm 126 [(1,.pt 2 0 0),(3,.d (.sl Zb) l),(4,.own 5 0 none),(5,.d (.int .i64) t),(7,.cst (.map (some m))),(9,.d (.int .i64) s),(10,.pt 11 0 0),(21,.d (.int .i64) (Int.ofNat (List.length p.2))),(22,.d (.int .i64) t),(29,.own 30 0 none),(30,.d (.int .i64) (Int.ofNat (List.length ss))),(31,.d (.int .i64) k),(65,.own 66 0 none),(66,.d (.int .i64) (Int.ofNat (List.length ls))),(67,.d (.int .i64) j)],[dObP p,dObO out,(11,0,.box 78 [.d (.int .i64) fr.1,.mp 11266 0] none),(30,0,.row 3 (.int .i64) ss false),(66,0,.row 3 (.int .i64) ls false),(11266,0,.map (.int .i64) (.int .u64) fr.2)]⟩
def labD:Lab:=⟨[1,3,4,5,7,9,10,21,22,29,30,31,65,66,67],[(5,78)]⟩
def stD14 (p:El Zc) (l:List (El Zb)) (out:List (El Zg)) (t:Int) (m:Nat) (ss:List Int) (k s:Int) (fr:SetD) (ls:List Int) (j r:Int):St:=
 ⟨mkTm 126 [(1,.pt 2 0 0),(3,.d (.sl Zb) l),(4,.own 5 0 none),(5,.d (.int .i64) t),(7,.cst (.map (some m))),(9,.d (.int .i64) s),(10,.pt 11 0 0),(14,.d (.int .i64) r),(21,.d (.int .i64) (Int.ofNat (List.length p.2))),(22,.d (.int .i64) t),(29,.own 30 0 none),(30,.d (.int .i64) (Int.ofNat (List.length ss))),(31,.d (.int .i64) k),(65,.own 66 0 none),(66,.d (.int .i64) (Int.ofNat (List.length ls))),(67,.d (.int .i64) j)],[dObP p,dObO out,(11,0,.box 78 [.d (.int .i64) fr.1,.mp 11266 0] none),(30,0,.row 3 (.int .i64) ss false),(66,0,.row 3 (.int .i64) ls false),(11266,0,.map (.int .i64) (.int .u64) fr.2)]⟩
def labD14:Lab:=⟨[1,3,4,5,7,9,10,14,21,22,29,30,31,65,66,67],[(5,78)]⟩
def stE (p:El Zc) (l:List (El Zb)) (out:List (El Zg)) (t:Int) (m:Nat) (ss:List Int) (k s:Int) (fr:SetD) (ls:List Int) (j r:Int) (bs:List Int) (i:Int):St:=
 ⟨mkTm 126 [(1,.pt 2 0 0),(3,.d (.sl Zb) l),(4,.own 5 0 none),(5,.d (.int .i64) t),(7,.cst (.map (some m))),(9,.d (.int .i64) s),(10,.pt 11 0 0),(14,.d (.int .i64) r),(21,.d (.int .i64) (Int.ofNat (List.length p.2))),(22,.d (.int .i64) t),(29,.own 30 0 none),(30,.d (.int .i64) (Int.ofNat (List.length ss))),(31,.d (.int .i64) k),(65,.own 66 0 none),(66,.d (.int .i64) (Int.ofNat (List.length ls))),(67,.d (.int .i64) j),(90,.own 91 0 none),(91,.d (.int .i64) (Int.ofNat (List.length bs))),(92,.d (.int .i64) i)],[dObP p,dObO out,(11,0,.box 78 [.d (.int .i64) fr.1,.mp 11266 0] none),(30,0,.row 3 (.int .i64) ss false),(66,0,.row 3 (.int .i64) ls false),(91,0,.row 3 (.int .i64) bs false),(11266,0,.map (.int .i64) (.int .u64) fr.2)]⟩
def labE:Lab:=⟨[1,3,4,5,7,9,10,14,21,22,29,30,31,65,66,67,90,91,92],[(5,78)]⟩
end
end Go.Ev
end

section
open Go Go.Ev
namespace Go.Ev
noncomputable section
abbrev dEv (c:Code) (lab:Lab) (s s':St):Prop:=∀(L:Lt) (k:Kt) (x:Nat→Kt) (r:Kt),evC Go.Proofs.Tryz.prog (clOf dpT) [] L c 0 (fun t=>k (norm Go.Proofs.Tryz.prog lab t)) x r s=k s'
abbrev dEvI (c:Code) (s s':St):Prop:=∀(L:Lt) (k:Kt) (x:Nat→Kt) (r:Kt),evC Go.Proofs.Tryz.prog (clOf dpT) [] L c 0 (fun t=>k t) x r s=k s'
abbrev dEvG (c:Code) (lab:Lab) (s s':St) (b:Bool):Prop:=∀(L:Lt) (k:Kt) (x:Nat→Kt) (r:Kt),evC Go.Proofs.Tryz.prog (clOf dpT) [] L c 0 (fun t=>k (norm Go.Proofs.Tryz.prog lab t)) x r s=bif b then k s' else none
theorem dEvG.ok {c:Code} {lab:Lab} {s s':St} {b:Bool} (h:dEvG c lab s s' b) (hb:b=true):dEv c lab s s':=fun L k x r=>by rw[h,hb];rfl
section
variable (p:El Zc) (l:List (El Zb)) (out:List (El Zg)) (t:Int) (m:Nat) (ss:List Int) (k s:Int) (fr:SetD) (fs:List Int) (j:Int) (ls:List Int) (r:Int) (bs:List Int) (i:Int) (b:Bool)
def dS0:St:=⟨.ag [.d (.sl ZJ) p.1,.d (.sl (.sl Za)) p.2] :: tops 125,[]⟩
def dS1:St:=⟨mkTm 126 [(1,.pt 2 0 0)],[dObP p]⟩
def dS2:St:=⟨mkTm 126 [(1,.pt 2 0 0),(3,.d (.sl Zb) l)],[dObP p]⟩
def dS3:St:=⟨mkTm 126 [(1,.pt 2 0 0),(3,.d (.sl Zb) l),(4,.own 5 0 none)],[dObP p,dObO []]⟩
@[reducible] def inB (i:Int) (n:Nat):Bool:=decide ((0:Int)≤i)&&decide (i < Int.ofNat n)
theorem dp_0:dEv dp0 ⟨[1],[]⟩ (dS0 p) (dS1 p):=fun L k x r=>by kernel_rfl
theorem dp_1:dEvG dp1 ⟨[1,3],[]⟩ (dS1 p) (dS2 p (Zt p)) (ZjJ p):=fun L k x r=>by kernel_rfl
theorem dp_2:dEv dp2 ⟨[1,3,4],[(5,78)]⟩ (dS2 p l) (dS3 p l):=fun L k x r=>by kernel_rfl
theorem dp_3:dEv dp3 labA (dS3 p l) (stA p l [] 0):=fun L k x r=>by kernel_rfl
theorem ZFM:dEvI (lpR1 dpK0) (stA p l out t) ((stA p l out t).put (some 23) (.d .bool (decide (t < Int.ofNat (List.length p.2))))):=fun L k x r=>by kernel_rfl
theorem dp_4:dEv dp4 labA5 ((stA p l out t).put (some 23) (.d .bool b)) (stA5 p l out t):=fun L k x r=>by kernel_rfl
theorem ZFO:dEvI (lpR1 dpK2) (stB p l out t m ss k) ((stB p l out t m ss k).put (some 32) (.d .bool (decide (k < Int.ofNat (List.length ss))))):=fun L k x r=>by kernel_rfl
theorem dp_7:dEvG dp7 labB9 ((stB p l out t m ss k).put (some 32) (.d .bool b)) (stB9 p l out t m ss k (List.getD ss (Int.toNat k) (dflt (.int .i64)))) (inB k (List.length ss)):=fun L k x r=>by kernel_rfl
theorem dp_8:dEvG dp8 labB10 (stB9 p l out t m ss k s) (stB10 p l out t m ss k s (Zq (Int.ofNat (List.length (List.getD p.2 (Int.toNat t) (dflt (.sl Za))))))) (inB t (List.length p.2)):=fun L k x r=>by kernel_rfl
theorem dp_9:dEvG dp9 labC (stB10 p l out t m ss k s fr) (stC p l out t m ss k s fr (ZaS (List.getD p.2 (Int.toNat t) (dflt (.sl Za))) (List.getD l (Int.toNat s) (dflt Zb)).2.1) 0) (bif inB t (List.length p.2) then (bif inB s (List.length l) then Zfz (List.getD p.2 (Int.toNat t) (dflt (.sl Za))) (List.getD l (Int.toNat s) (dflt Zb)).2.1 else false) else false):=fun L k x r=>by
 rw[show ∀(a b c:Bool) (u:Option Ans),(bif (bif a then (bif b then c else false) else false) then u else none)=(bif a then (bif b then (bif c then u else none) else none) else none) from fun a b c u=>by cases a <;> cases b <;> rfl]
 kernel_rfl
theorem ZFR:dEvI (lpR1 dpK4) (stC p l out t m ss k s fr fs j) ((stC p l out t m ss k s fr fs j).put (some 56) (.d .bool (decide (j < Int.ofNat (List.length fs))))):=fun L k x r=>by kernel_rfl
theorem ZFG:dEvG (lpB dpK4) labC ((stC p l out t m ss k s fr fs j).put (some 56) (.d .bool b)) (stC p l out t m ss k s (Zl fr (List.getD fs (Int.toNat j) (dflt (.int .i64)))).2 fs j) (inB j (List.length fs)):=fun L k x r=>by kernel_rfl
theorem ZFF:dEv (lpR2 dpK4) labC (stC p l out t m ss k s fr fs j) (stC p l out t m ss k s fr fs (IntKind.i64.wrap (j+1))):=fun L k x r=>by kernel_rfl
theorem ZFP:dEvG dp10 labD ((stC p l out t m ss k s fr fs j).put (some 56) (.d .bool b)) (stD p l out t m ss k s fr (ZB l t false) 0) (Zce l t false):=fun L k x r=>by kernel_rfl
theorem ZFJ:dEvI (lpR1 dpK6) (stD p l out t m ss k s fr ls j) ((stD p l out t m ss k s fr ls j).put (some 68) (.d .bool (decide (j < Int.ofNat (List.length ls))))):=fun L k x r=>by kernel_rfl
theorem ZFS:dEvG dp11 labD14 ((stD p l out t m ss k s fr ls j).put (some 68) (.d .bool b)) (stD14 p l out t m ss k s fr ls j (List.getD ls (Int.toNat j) (dflt (.int .i64)))) (inB j (List.length ls)):=fun L k x r=>by kernel_rfl
def labD78:Lab:=⟨[1,3,4,5,7,9,10,14,21,22,29,30,31,65,66,67,78],[(5,78)]⟩
theorem ZFU:dEvG dp12 labD78 (stD14 p l out t m ss k s fr ls j r) ((stD14 p l out t m ss k s fr ls j r).put (some 78) (.d .bool (! (Zk fr (List.getD l (Int.toNat r) (dflt Zb)).2.1).1))) (inB r (List.length l)):=fun L k x r=>by kernel_rfl
theorem dn_D:norm Go.Proofs.Tryz.prog labD ((stD14 p l out t m ss k s fr ls j r).put (some 78) (.d .bool b))=stD p l out t m ss k s fr ls j:=by kernel_rfl
theorem ZFw:norm Go.Proofs.Tryz.prog labD14 ((stD14 p l out t m ss k s fr ls j r).put (some 78) (.d .bool b))=stD14 p l out t m ss k s fr ls j r:=by kernel_rfl
theorem ZFX:dEv (lpR2 dpK6) labD (stD p l out t m ss k s fr ls j) (stD p l out t m ss k s fr ls (IntKind.i64.wrap (j+1))):=fun L k x r=>by kernel_rfl
theorem ZFB:dEvG dp15 labE (stD14 p l out t m ss k s fr ls j r) (stE p l out t m ss k s fr ls j r (Za1 p r) 0) (ZeK p r):=fun L k x r=>by kernel_rfl
theorem ZFC:dEvI (lpR1 dpK8) (stE p l out t m ss k s fr ls j r bs i) ((stE p l out t m ss k s fr ls j r bs i).put (some 93) (.d .bool (decide (i < Int.ofNat (List.length bs))))):=fun L k x r=>by kernel_rfl
def labE16:Lab:=⟨[1,3,4,5,7,9,10,14,16,21,22,29,30,31,65,66,67,90,91,92],[(5,78)]⟩
theorem ZFI:dEvG dp18 labE16 ((stE p l out t m ss k s fr ls j r bs i).put (some 93) (.d .bool b)) ((stE p l out t m ss k s fr ls j r bs i).put (some 16) (.d (.int .i64) (List.getD bs (Int.toNat i) (dflt (.int .i64))))) (inB i (List.length bs)):=fun L k x r=>by kernel_rfl
theorem ZFV:dEv (lpR2 dpK8) labE (stE p l out t m ss k s fr ls j r bs i) (stE p l out t m ss k s fr ls j r bs (IntKind.i64.wrap (i+1))):=fun L k x r=>by kernel_rfl
theorem ZFr:norm Go.Proofs.Tryz.prog labD14 ((stE p l out t m ss k s fr ls j r bs i).put (some 93) (.d .bool b))=stD14 p l out t m ss k s fr ls j r:=by kernel_rfl
theorem ZFW:dEv (lpR2 dpK2) labB ((stD p l out t m ss k s fr ls j).put (some 68) (.d .bool b)) (stB p l out t m ss (IntKind.i64.wrap (k+1))):=fun L k x r=>by kernel_rfl
theorem ZFE:dEv (lpR2 dpK0) labA ((stB p l out t m ss k).put (some 32) (.d .bool b)) (stA p l out (IntKind.i64.wrap (t+1))):=fun L k x r=>by kernel_rfl
end
end
end Go.Ev
end

section
open Go Go.Ev
namespace Go.Ev
noncomputable section
section
variable [Orgs] {Mod F0:Nat→Prop} {w0:World} {h:HS} {a:Act} {w:World} {Q:Exit→Act→World→Prop}
variable {p:El Zc} {l:List (El Zb)} {out:List (El Zg)} {t:Int} {m:Nat} {ss:List Int} {k s:Int} {fr:SetD} {fs:List Int} {j:Int} {ls:List Int} {r:Int} {bs:List Int} {i x:Int} {b:Bool}
theorem dcl:Spec Go.Proofs.Tryz.prog (clOf dpT)∧DetC (clOf dpT):=Zoq ZFk
abbrev dProg:Program:=Go.Proofs.Tryz.prog
def cOf (o:Oper):Call:=match o.op with |.call c=>c | _=>default
def st5a (p:El Zc) (l:List (El Zb)) (out:List (El Zg)) (t:Int):St:=((stA5 p l out t).put (some 25) (.d (.sl Zb) l)).put (some 26) (.d (.int .i64) t)
def st5b (p:El Zc) (l:List (El Zb)) (out:List (El Zg)) (t:Int) (ss:List Int):St:=((st5a p l out t).setOb 28 0 (.row 3 (.int .i64) ss false)).put (some 27) (.own 28 0 none)
def st5c (p:El Zc) (l:List (El Zb)) (out:List (El Zg)) (t:Int) (ss:List Int) (m:Nat):St:=(((st5b p l out t ss).put (some 28) (.cst (.map (some m)))).put (some 6) (.own 28 0 none)).put (some 7) (.cst (.map (some m)))
theorem ZFY (k:St→Option Ans):opA dProg (clOf dpT) (opC dp5 2) (st5a p l out t) k=bif Zce l t true then k (st5b p l out t (ZB l t true)) else none:=by kernel_rfl
theorem dp_6:dEv dp6 labB (st5c p l out t ss m) (stB p l out t m ss 0):=fun L k x r=>by kernel_rfl
theorem w_5 (hk:Zce l t true=true) (hr:Rel Mod F0 w0 (stA5 p l out t) a w) (hQ:∀m a' w',RelH 78 Mod F0 w0 ⟨m,[]⟩ (st5c p l out t (ZB l t true) m) a' w'→Q .normal a' w'):(Code.region (ridC dp5) (ropsC dp5) false).wp dProg Q a w:=by
 refine wp_region ?_
 rw[show List.range (ropsC dp5).size=[0,1,2,3,4,5] from by kernel_rfl]
 refine evOp dcl.1 (o:=opC dp5 0) (st1:=(stA5 p l out t).put (some 25) (.d (.sl Zb) l)) (by kernel_rfl) (by kernel_rfl) (fun k=>by kernel_rfl) hr fun a w hr=>?_
 refine evOp dcl.1 (o:=opC dp5 1) (st1:=st5a p l out t) (by kernel_rfl) (by kernel_rfl) (fun k=>by kernel_rfl) hr fun a w hr=>?_
 refine evOp dcl.1 (o:=opC dp5 2) (st1:=st5b p l out t (ZB l t true)) (by kernel_rfl) (by kernel_rfl) (fun k=>by rw[ZFY,hk];rfl) hr fun a w hr=>?_
 refine handOp (o:=opC dp5 3) (by kernel_rfl) (by kernel_rfl) ?_
 refine makeMapH (T:=78) (TM:=57) (by kernel_rfl) hr fun m a w hr=>?_
 rw[show (opC dp5 3).dst=some 28 from by kernel_rfl] at hr
 refine evOpH dcl.1 (o:=opC dp5 4) (st1:=((st5b p l out t (ZB l t true)).put (some 28) (.cst (.map (some m)))).put (some 6) (.own 28 0 none)) (by kernel_rfl) (by kernel_rfl) (fun k=>by kernel_rfl) hr fun a w hr=>?_
 refine evOpH dcl.1 (o:=opC dp5 5) (st1:=st5c p l out t (ZB l t true) m) (by kernel_rfl) (by kernel_rfl) (fun k=>by kernel_rfl) hr fun a w hr=>?_
 exact hQ m a w hr
def st13 (p:El Zc) (l:List (El Zb)) (out:List (El Zg)) (t:Int) (m:Nat) (ss:List Int) (k s:Int) (fr:SetD) (ls:List Int) (j r:Int) (v:Value) (b:Bool):St:=
 ((((stD14 p l out t m ss k s fr ls j r).put (some 79) (.cst (.map (some m)))).put (some 80) (.d (.int .i64) r)).put (some 81) (.cst v)).put (some 82) (.d .bool b)
theorem ZFK (v:Value):norm dProg labD14 (st13 p l out t m ss k s fr ls j r v b)=stD14 p l out t m ss k s fr ls j r:=by kernel_rfl
theorem w_13 (hr:RelH 78 Mod F0 w0 h (stD14 p l out t h.m ss k s fr ls j r) a w) (hQ:∀a' w',RelH 78 Mod F0 w0 h (st13 p l out t h.m ss k s fr ls j r (ptrOf (h.at_ r)) (h.at_ r).isNone) a' w'→Q .normal a' w'):(Code.region (ridC dp13) (ropsC dp13) false).wp dProg Q a w:=by
 refine wp_region ?_
 rw[show List.range (ropsC dp13).size=[0,1,2,3] from by kernel_rfl]
 refine evOpH dcl.1 (o:=opC dp13 0) (st1:=(stD14 p l out t h.m ss k s fr ls j r).put (some 79) (.cst (.map (some h.m)))) (by kernel_rfl) (by kernel_rfl) (fun k=>by kernel_rfl) hr fun a w hr=>?_
 refine evOpH dcl.1 (o:=opC dp13 1) (st1:=((stD14 p l out t h.m ss k s fr ls j r).put (some 79) (.cst (.map (some h.m)))).put (some 80) (.d (.int .i64) r)) (by kernel_rfl) (by kernel_rfl) (fun k=>by kernel_rfl) hr fun a w hr=>?_
 refine handOp (o:=opC dp13 2) (by kernel_rfl) (by kernel_rfl) ?_
 refine lookupH (TM:=57) (K:=3) (V:=58) (x:=.tmp 79) (k:=.tmp 80) (key:=r) (by kernel_rfl) (by kernel_rfl) (by kernel_rfl) (by kernel_rfl) (by kernel_rfl) (by kernel_rfl) hr fun a w hr=>?_
 rw[show (opC dp13 2).dst=some 81 from by kernel_rfl] at hr
 refine handOp (o:=opC dp13 3) (by kernel_rfl) (by kernel_rfl) ?_
 refine eqNilH (TT:=58) (TT':=(match (opC dp13 3).op with |.binOp _ _ _ _ T=>T | _=>0)) (E:=(match dProg.underlying 58 with | some (.pointer E)=>E | _=>0)) (x:=.tmp 81) (y:=.const (.pointer none)) (s:=h.at_ r) (by kernel_rfl) (by kernel_rfl) (by kernel_rfl) (by kernel_rfl) hr fun a w hr=>?_
 rw[show (opC dp13 3).dst=some 82 from by kernel_rfl] at hr
 exact hQ a w hr
def st14 (p:El Zc) (l:List (El Zb)) (out:List (El Zg)) (t:Int) (m:Nat) (ss:List Int) (k s:Int) (fr:SetD) (ls:List Int) (j r:Int):St:=
 ((((stD14 p l out t m ss k s fr ls j r).put (some 83) (.cst (.map (some m)))).put (some 84) (.d (.int .i64) r)).put (some 85) (.d (.sl Zb) l)).put (some 86) (.d (.int .i64) (Int.ofNat (List.length l)))
def st14b (p:El Zc) (l:List (El Zb)) (out:List (El Zg)) (t:Int) (m:Nat) (ss:List Int) (k s:Int) (fr:SetD) (ls:List Int) (j r:Int) (d:SetD):St:=
 (((st14 p l out t m ss k s fr ls j r).setOb 90114 0 (.map (.int .i64) (.int .u64) d.2)).setOb 88 0 (.box 78 [.d (.int .i64) d.1,.mp 90114 0] none)).put (some 87) (.pt 88 0 0)
theorem ZFH (d:SetD) (o:Option Nat) (ho:o=none):norm dProg labD14 ((dropIds [88,90114] (st14b p l out t m ss k s fr ls j r d)).put o .top)=stD14 p l out t m ss k s fr ls j r:=by
 subst ho
 kernel_rfl
theorem w_14 (hn:h.at_ r=none) (hr:RelH 78 Mod F0 w0 h (stD14 p l out t h.m ss k s fr ls j r) a w)
  (hQ:∀e a' w',e.key=r→(e.n,e.l)=Zq (Int.ofNat (List.length l))→RelH 78 Mod F0 w0 ⟨h.m,h.es++[e]⟩ (stD14 p l out t h.m ss k s fr ls j r) a' w'→Q .normal a' w'):(Code.region (ridC dp14) (ropsC dp14) false).wp dProg Q a w:=by
 refine wp_region ?_
 rw[show List.range (ropsC dp14).size=[0,1,2,3,4,5] from by kernel_rfl]
 refine evOpH dcl.1 (o:=opC dp14 0) (st1:=(stD14 p l out t h.m ss k s fr ls j r).put (some 83) (.cst (.map (some h.m)))) (by kernel_rfl) (by kernel_rfl) (fun k=>by kernel_rfl) hr fun a w hr=>?_
 refine evOpH dcl.1 (o:=opC dp14 1) (st1:=((stD14 p l out t h.m ss k s fr ls j r).put (some 83) (.cst (.map (some h.m)))).put (some 84) (.d (.int .i64) r)) (by kernel_rfl) (by kernel_rfl) (fun k=>by kernel_rfl) hr fun a w hr=>?_
 refine evOpH dcl.1 (o:=opC dp14 2) (st1:=(((stD14 p l out t h.m ss k s fr ls j r).put (some 83) (.cst (.map (some h.m)))).put (some 84) (.d (.int .i64) r)).put (some 85) (.d (.sl Zb) l)) (by kernel_rfl) (by kernel_rfl) (fun k=>by kernel_rfl) hr fun a w hr=>?_
 refine evOpH dcl.1 (o:=opC dp14 3) (st1:=st14 p l out t h.m ss k s fr ls j r) (by kernel_rfl) (by kernel_rfl) (fun k=>by kernel_rfl) hr fun a w hr=>?_
 refine evOpH dcl.1 (o:=opC dp14 4) (st1:=st14b p l out t h.m ss k s fr ls j r (Zq (Int.ofNat (List.length l)))) (by kernel_rfl) (by kernel_rfl) (fun k=>by kernel_rfl) hr fun a w hr=>?_
 refine handOp (o:=opC dp14 5) (by kernel_rfl) (by kernel_rfl) ?_
 refine putH (TM:=57) (K:=3) (V:=58) (x:=.tmp 83) (k:=.tmp 84) (v:=.tmp 87) (key:=r) (id:=88) (ver:=0) (id2:=90114) (ver2:=0) (tg:=none) (n:=(Zq (Int.ofNat (List.length l))).1) (l:=(Zq (Int.ofNat (List.length l))).2)
  (by kernel_rfl) (by kernel_rfl) (by kernel_rfl) (by kernel_rfl) (by kernel_rfl) (by kernel_rfl) (by kernel_rfl) (by kernel_rfl) (by decide) hn hr fun b mb a w hr=>?_
 exact hQ _ a w rfl rfl (RelH.norm (ZFH _ _ (by kernel_rfl)) hr)
def st19 (p:El Zc) (l:List (El Zb)) (out:List (El Zg)) (t:Int) (m:Nat) (ss:List Int) (k s:Int) (fr:SetD) (ls:List Int) (j r:Int) (bs:List Int) (i x:Int) (v:Value):St:=
 (((((stE p l out t m ss k s fr ls j r bs i).put (some 16) (.d (.int .i64) x)).put (some 96) (.cst (.map (some m)))).put (some 97) (.d (.int .i64) r)).put (some 98) (.cst v)).put (some 99) (.d (.int .i64) x)
theorem ZFQ (v:Value) (o:Option Nat) (ho:o=some 100):norm dProg labE ((st19 p l out t m ss k s fr ls j r bs i x v).put o (.d .bool b))=stE p l out t m ss k s fr ls j r bs i:=by
 subst ho
 kernel_rfl
theorem w_19 {e:SE} (he:h.at_ r=some e) (hr:RelH 78 Mod F0 w0 h ((stE p l out t h.m ss k s fr ls j r bs i).put (some 16) (.d (.int .i64) x)) a w)
  (hQ:∀h' a' w',h'.m=h.m→h'.cont=putC h.cont r (Zl (e.n,e.l) x).2→RelH 78 Mod F0 w0 h' (stE p l out t h'.m ss k s fr ls j r bs i) a' w'→Q .normal a' w'):(Code.region (ridC dp19) (ropsC dp19) false).wp dProg Q a w:=by
 refine wp_region ?_
 rw[show List.range (ropsC dp19).size=[0,1,2,3,4] from by kernel_rfl]
 refine evOpH dcl.1 (o:=opC dp19 0) (st1:=((stE p l out t h.m ss k s fr ls j r bs i).put (some 16) (.d (.int .i64) x)).put (some 96) (.cst (.map (some h.m)))) (by kernel_rfl) (by kernel_rfl) (fun k=>by kernel_rfl) hr fun a w hr=>?_
 refine evOpH dcl.1 (o:=opC dp19 1) (st1:=(((stE p l out t h.m ss k s fr ls j r bs i).put (some 16) (.d (.int .i64) x)).put (some 96) (.cst (.map (some h.m)))).put (some 97) (.d (.int .i64) r)) (by kernel_rfl) (by kernel_rfl) (fun k=>by kernel_rfl) hr fun a w hr=>?_
 refine handOp (o:=opC dp19 2) (by kernel_rfl) (by kernel_rfl) ?_
 refine lookupH (TM:=57) (K:=3) (V:=58) (x:=.tmp 96) (k:=.tmp 97) (key:=r) (by kernel_rfl) (by kernel_rfl) (by kernel_rfl) (by kernel_rfl) (by kernel_rfl) (by kernel_rfl) hr fun a w hr=>?_
 rw[show (opC dp19 2).dst=some 98 from by kernel_rfl] at hr
 refine evOpH dcl.1 (o:=opC dp19 3) (st1:=st19 p l out t h.m ss k s fr ls j r bs i x (ptrOf (h.at_ r))) (by kernel_rfl) (by kernel_rfl) (fun k=>by kernel_rfl) hr fun a w hr=>?_
 refine handOp (o:=opC dp19 4) (by kernel_rfl) (by kernel_rfl) ?_
 have hnd:(h.es.map SE.key).Nodup:=by obtain ⟨_,_,_,_,_,_,hH,_⟩:=hr;exact hH.2.1
 have hC:CallOK dProg 16 [.bx 78 [.d (.int .i64) e.n,.mv (.int .i64) (.int .u64) e.l],.d (.int .i64) x] (ZdU (Zl (e.n,e.l) x)):=ZBu Zbj fun k=>by kernel_rfl
 refine callSetH (c:=cOf (opC dp19 4)) (f:=16) (fn:=Go.Proofs.Tryz.f16) (body:=Go.Proofs.Tryz.f16.body.getD .skip) (x:=.tmp 98) (y:=.tmp 99) (key:=r) (i:=x) (by kernel_rfl) (by kernel_rfl) (by kernel_rfl) (by kernel_rfl) (by kernel_rfl) (by kernel_rfl) (by kernel_rfl) he (by kernel_rfl) hC hr fun A B mb' a w hAB hr=>?_
 refine hQ ⟨h.m,A++⟨r,e.b,mb',(Zl (e.n,e.l) x).2.1,(Zl (e.n,e.l) x).2.2⟩ :: B⟩ a w rfl ?_ (RelH.norm (ZFQ _ _ (by kernel_rfl)) hr)
 have hk:=(ZDf he).2
 have:=ZDG (A:=A) (B:=B) (e:=e) (b:=e.b) (mb:=mb') (n:=0) (n':=(Zl (e.n,e.l) x).2.1) (l':=(Zl (e.n,e.l) x).2.2) hk (by rw[←hAB];exact hnd) h.m h.m
 rw[this]
 have:(⟨h.m,A++e :: B⟩:HS)=h:=by cases h;simp only[HS.mk.injEq,true_and];exact hAB.symm
 rw[this]
def st16 (p:El Zc) (l:List (El Zb)) (out:List (El Zg)) (t:Int) (m:Nat) (ss:List Int) (k s:Int) (fr:SetD) (ls:List Int) (j r:Int) (v:Value) (b:Bool):St:=
 (((((stD14 p l out t m ss k s fr ls j r).put (some 102) (.cst (.map (some m)))).put (some 103) (.d (.int .i64) r)).put (some 104) (.cst v)).put (some 105) (.d (.int .i64) s)).put (some 106) (.d .bool b)
theorem ZFT (v:Value):norm dProg labD (st16 p l out t m ss k s fr ls j r v b)=stD p l out t m ss k s fr ls j:=by kernel_rfl
theorem w_16 {e:SE} (he:h.at_ r=some e) (hr:RelH 78 Mod F0 w0 h (stD14 p l out t h.m ss k s fr ls j r) a w)
  (hQ:∀h' a' w',h'.m=h.m→h'.cont=h.cont→RelH 78 Mod F0 w0 h' (st16 p l out t h'.m ss k s fr ls j r (ptrOf (h.at_ r)) (Zk (e.n,e.l) s).1) a' w'→Q .normal a' w'):(Code.region (ridC dp16) (ropsC dp16) false).wp dProg Q a w:=by
 refine wp_region ?_
 rw[show List.range (ropsC dp16).size=[0,1,2,3,4] from by kernel_rfl]
 refine evOpH dcl.1 (o:=opC dp16 0) (st1:=(stD14 p l out t h.m ss k s fr ls j r).put (some 102) (.cst (.map (some h.m)))) (by kernel_rfl) (by kernel_rfl) (fun k=>by kernel_rfl) hr fun a w hr=>?_
 refine evOpH dcl.1 (o:=opC dp16 1) (st1:=((stD14 p l out t h.m ss k s fr ls j r).put (some 102) (.cst (.map (some h.m)))).put (some 103) (.d (.int .i64) r)) (by kernel_rfl) (by kernel_rfl) (fun k=>by kernel_rfl) hr fun a w hr=>?_
 refine handOp (o:=opC dp16 2) (by kernel_rfl) (by kernel_rfl) ?_
 refine lookupH (TM:=57) (K:=3) (V:=58) (x:=.tmp 102) (k:=.tmp 103) (key:=r) (by kernel_rfl) (by kernel_rfl) (by kernel_rfl) (by kernel_rfl) (by kernel_rfl) (by kernel_rfl) hr fun a w hr=>?_
 rw[show (opC dp16 2).dst=some 104 from by kernel_rfl] at hr
 refine evOpH dcl.1 (o:=opC dp16 3) (st1:=((((stD14 p l out t h.m ss k s fr ls j r).put (some 102) (.cst (.map (some h.m)))).put (some 103) (.d (.int .i64) r)).put (some 104) (.cst (ptrOf (h.at_ r)))).put (some 105) (.d (.int .i64) s)) (by kernel_rfl) (by kernel_rfl) (fun k=>by kernel_rfl) hr fun a w hr=>?_
 refine handOp (o:=opC dp16 4) (by kernel_rfl) (by kernel_rfl) ?_
 have hnd:(h.es.map SE.key).Nodup:=by obtain ⟨_,_,_,_,_,_,hH,_⟩:=hr;exact hH.2.1
 have hC:CallOK dProg 17 [.bx 78 [.d (.int .i64) e.n,.mv (.int .i64) (.int .u64) e.l],.d (.int .i64) s] (ZdW (Zk (e.n,e.l) s)):=ZBu Zdg fun k=>by kernel_rfl
 refine callSetH (c:=cOf (opC dp16 4)) (f:=17) (fn:=Go.Proofs.Tryz.f17) (body:=Go.Proofs.Tryz.f17.body.getD .skip) (x:=.tmp 104) (y:=.tmp 105) (key:=r) (i:=s) (by kernel_rfl) (by kernel_rfl) (by kernel_rfl) (by kernel_rfl) (by kernel_rfl) (by kernel_rfl) (by kernel_rfl) he (by kernel_rfl) hC hr fun A B mb' a w hAB hr=>?_
 rw[show (opC dp16 4).dst=some 106 from by kernel_rfl] at hr
 refine hQ ⟨h.m,A++⟨r,e.b,mb',(Zk (e.n,e.l) s).2.1,(Zk (e.n,e.l) s).2.2⟩ :: B⟩ a w rfl ?_ hr
 have hk:=(ZDf he).2
 unfold HS.cont
 rw[hAB]
 simp only[List.map_append,List.map_cons,hk]
 rfl
theorem ZFL (v:Value):dEvG dp17 labD (st16 p l out t m ss k s fr ls j r v b) (stD p l (out++[(t,((List.getD l (Int.toNat s) (dflt Zb)).2.1,(List.getD l (Int.toNat r) (dflt Zb)).2.1))]) t m ss k s fr ls j)
  (bif inB s (List.length l) then (bif inB r (List.length l) then Nat.ble ((List.length out+1)*24) limit else false) else false):=fun L k x r=>by
 rw[show ∀(a b c:Bool) (u:Option Ans),(bif (bif a then (bif b then c else false) else false) then u else none)=(bif a then (bif b then (bif c then u else none) else none) else none) from fun a b c u=>by cases a <;> cases b <;> rfl]
 kernel_rfl
end
end
end Go.Ev
end

section
open Go Go.Ev
namespace Go.Ev
noncomputable section
def putAll (d:SetD) (xs:List Int):SetD:=xs.foldl (fun d x=>(Zl d x).2) d
def dBack (p:El Zc) (l:List (El Zb)) (r:Int):SetD:=putAll (Zq (Int.ofNat (List.length l))) (Za1 p r)
abbrev OkS (p:El Zc) (l:List (El Zb)) (ms:SetsD):Prop:=∀r d,getC ms r=some d→d=dBack p l r
abbrev OkBut (p:El Zc) (l:List (El Zb)) (ms:SetsD) (r:Int):Prop:=∀r',r'≠r→∀d,getC ms r'=some d→d=dBack p l r'
theorem ZEl {ms:SetsD} {r:Int} {d d':SetD} (h:getC ms r=some d):getC (putC ms r d') r=some d':=by
 induction ms with
 | nil=>cases h
 | cons x ms ih=>
  unfold getC putC at*
  by_cases hx:x.1=r
  ·simp[hx]
  ·simp only[List.map_cons,hx,if_false]
   rw[List.find?_cons_of_neg (by simpa using hx)]
   rw[List.find?_cons_of_neg (by simpa using hx)] at h
   exact ih h
theorem Zz2 {ms:SetsD} {r r':Int} {d':SetD} (hne:r'≠r):getC (putC ms r d') r'=getC ms r':=by
 induction ms with
 | nil=>rfl
 | cons x ms ih=>
  unfold getC putC at*
  by_cases hx:x.1=r
  ·have h1:¬r=r':=fun e=>hne e.symm
   have h2:¬x.1=r':=by rw[hx];exact h1
   simp only[List.map_cons,hx,if_true]
   rw[List.find?_cons_of_neg (by simpa using h1),List.find?_cons_of_neg (by simpa using h2)]
   exact ih
  ·simp only[List.map_cons,hx,if_false]
   by_cases hx':x.1=r'
   ·rw[List.find?_cons_of_pos (by simpa using hx'),List.find?_cons_of_pos (by simpa using hx')]
   ·rw[List.find?_cons_of_neg (by simpa using hx'),List.find?_cons_of_neg (by simpa using hx')]
    exact ih
theorem ZD7 {ms:SetsD} {r:Int} {d:SetD} (h:getC ms r=none):getC (ms++[(r,d)]) r=some d:=by
 unfold getC at*
 rw[List.find?_append]
 rw[Option.map_eq_none_iff] at h
 rw[h]
 simp
theorem ZAH {ms:SetsD} {r r':Int} {d:SetD} (h:r'≠r):getC (ms++[(r,d)]) r'=getC ms r':=by
 unfold getC
 rw[List.find?_append]
 have:¬r=r':=fun e=>h e.symm
 simp[this]
theorem ZuB {i n:Nat} (h:i < n):inB (i:Int) n=true:=by
 unfold inB
 rw[decide_eq_true (Int.natCast_nonneg i),decide_eq_true (show (i:Int) < Int.ofNat n from Int.ofNat_lt.2 h)]
 rfl
theorem ZxZ (i n:Nat):decide ((i:Int) < Int.ofNat n)=decide (i < n):=decide_eq_decide.2 Int.ofNat_lt
section
variable [Orgs] {Mod F0:Nat→Prop} {w0:World} {h:HS} {a:Act} {w:World} {Q:Exit→Act→World→Prop}
variable {p:El Zc} {l:List (El Zb)} {out:List (El Zg)} {t:Int} {m:Nat} {ss:List Int} {k s:Int} {fr:SetD} {fs:List Int} {j:Int} {ls:List Int} {r:Int} {bs:List Int} {i x:Int} {b:Bool}
theorem w_K8 {d0:SetD} (hb:bs.length < 1000000000000) (ho:OkBut p l h.cont r) (hg:getC h.cont r=some d0) (hr:RelH 78 Mod F0 w0 h (stE p l out t h.m ss k s fr ls j r bs 0) a w)
  (hQ:∀h' a' w',OkBut p l h'.cont r→getC h'.cont r=some (putAll d0 bs)→RelH 78 Mod F0 w0 h' (stD14 p l out t h'.m ss k s fr ls j r) a' w'→Q .normal a' w'):dpK8.wp dProg Q a w:=by
 rw[ZFa]
 refine forLoop (fun i a w=>∃h:HS,OkBut p l h.cont r∧getC h.cont r=some (putAll d0 (bs.take i))∧RelH 78 Mod F0 w0 h (stE p l out t h.m ss k s fr ls j r bs (i:Int)) a w)
  (fun i a w=>∃h:HS,OkBut p l h.cont r∧getC h.cont r=some (putAll d0 (bs.take i))∧RelH 78 Mod F0 w0 h ((stE p l out t h.m ss k s fr ls j r bs (i:Int)).put (some 93) (.d .bool (decide ((i:Int) < Int.ofNat (List.length bs))))) a w)
  (fun i a w=>∃h:HS,OkBut p l h.cont r∧getC h.cont r=some (putAll d0 (bs.take (i+1)))∧RelH 78 Mod F0 w0 h (stE p l out t h.m ss k s fr ls j r bs (i:Int)) a w)
  bs.length (toGo 92 bs.length) ?_ ?_ ?_ ?_ ?_ ⟨h,ho,hg,hr⟩ ?_
 ·intro i a w hi ⟨h,ho,hg,hr⟩
  exact pieceH dcl.1 dcl.2 (fun s=>s) (fun h=>h) (ZFC _ _ _ _ _ _ _ _ _ _ _ _ _ _) hr fun a' w' hr'=>⟨rfl,h,ho,hg,hr'⟩
 ·intro i a w hi ⟨h,ho,hg,hr⟩
  rw[hr.evb (x:=.tmp 93) (b:=decide ((i:Int) < Int.ofNat (List.length bs))) (by kernel_rfl),ZxZ]
 ·intro i a w hi ⟨h,ho,hg,hr⟩
  rw[ZFh]
  refine wp_seq (pieceH dcl.1 dcl.2 (norm dProg labE16) (fun h=>Zah h) ((ZFI p l out t h.m ss k s fr j ls r bs (i:Int) _).ok (ZuB hi)) hr fun a w hr=>?_)
  have hat:=ZAe h r
  rw[hg] at hat
  obtain ⟨e,he,hed⟩:=Option.map_eq_some_iff.1 hat
  refine w_19 he hr fun h' a' w' hm hc hr'=>⟨.inl rfl,h',fun r' hr1 d hd=>?_,?_,hr'⟩
  ·rw[hc,Zz2 hr1] at hd
   exact ho r' hr1 d hd
  ·rw[hc,ZEl hg,hed,List.take_succ_eq_append_getElem hi]
   unfold putAll
   rw[List.foldl_append]
   simp only[List.foldl_cons,List.foldl_nil]
   rw[Int.toNat_natCast,List.getD_eq_getElem?_getD,List.getElem?_eq_getElem hi]
   rfl
 ·intro i a w hi ⟨h,ho,hg,hr⟩
  have e:=ZFV p l out t h.m ss k s fr j ls r bs (i:Int)
  rw[Zz (by omega)] at e
  exact pieceH dcl.1 dcl.2 (norm dProg labE) (fun h=>Zah h) e hr fun a' w' hr'=>⟨rfl,h,ho,hg,hr'⟩
 ·intro i a w hi ⟨h,ho,hg,hr⟩
  unfold toGo
  rw[hr.ev (x:=.tmp 92) (k:=.i64) (n:=(i:Int)) (by kernel_rfl)]
  rfl
 ·intro a w ⟨h,ho,hg,hr⟩
  rw[List.take_length] at hg
  exact hQ h a w ho hg (hr.norm (ZFr _ _ _ _ _ _ _ _ _ _ _ _ _ _ _))
end
end
end Go.Ev
end

section
open Go Go.Ev
namespace Go.Ev
noncomputable section
def hitP (p:El Zc) (l:List (El Zb)) (s:Int) (fr:SetD) (r:Int):Bool:=(Zk fr (List.getD l (Int.toNat r) (dflt Zb)).2.1).1&&(Zk (dBack p l r) s).1
def oneP (p:El Zc) (l:List (El Zb)) (t s:Int) (fr:SetD) (r:Int):List (El Zg):=
 if hitP p l s fr r=true then [(t,((List.getD l (Int.toNat s) (dflt Zb)).2.1,(List.getD l (Int.toNat r) (dflt Zb)).2.1))] else []
section
variable [Orgs] {Mod F0:Nat→Prop} {w0:World} {h:HS} {a:Act} {w:World} {Q:Exit→Act→World→Prop}
variable {p:El Zc} {l:List (El Zb)} {out:List (El Zg)} {t:Int} {m:Nat} {ss:List Int} {k s:Int} {fr:SetD} {fs:List Int} {j:Int} {ls:List Int} {r:Int} {bs:List Int} {i x:Int} {b:Bool}
theorem ZwO {r:Int} {n:Nat} (h0:0≤r) (h1:r < (n:Int)):inB r n=true:=by
 unfold inB
 rw[decide_eq_true h0,decide_eq_true (show r < Int.ofNat n from h1)]
 rfl
theorem ZFN (hs:0≤s∧s < (l.length:Int)) (hrr:0≤r∧r < (l.length:Int)) (hlim:(out.length+1)*24≤limit) (hhas:(Zk fr (List.getD l (Int.toNat r) (dflt Zb)).2.1).1=true) (ho:OkS p l h.cont) (hg:getC h.cont r=some (dBack p l r))
  (hr:RelH 78 Mod F0 w0 h (stD14 p l out t h.m ss k s fr ls j r) a w) (hQ:∀h' a' w',OkS p l h'.cont→RelH 78 Mod F0 w0 h' (stD p l (out++oneP p l t s fr r) t h'.m ss k s fr ls j) a' w'→Q .normal a' w'):
  (Code.seq (.region (ridC dp16) (ropsC dp16) false) (.cond (.tmp 106) dp17 .skip)).wp dProg Q a w:=by
 have hat:=ZAe h r
 rw[hg] at hat
 obtain ⟨e,he,hed⟩:=Option.map_eq_some_iff.1 hat
 refine wp_seq (w_16 he hr fun h' a w hm hc hr=>?_)
 have ho':OkS p l h'.cont:=by rw[hc];exact ho
 have hone:hitP p l s fr r=(Zk (e.n,e.l) s).1:=by unfold hitP;rw[hhas,hed];rfl
 refine wp_cond_split (t:=(Zk (e.n,e.l) s).1) (hr.evb (x:=.tmp 106) (by kernel_rfl)) (fun ht=>?_) (fun hf=>?_)
 ·refine pieceH dcl.1 dcl.2 (norm dProg labD) (fun h=>Zah h) ((ZFL _).ok ?_) hr fun a w hr=>hQ h' a w ho' ?_
  ·rw[ZwO hs.1 hs.2,ZwO hrr.1 hrr.2]
   exact Nat.ble_eq_true_of_le hlim
  ·unfold oneP
   rw[if_pos (hone.trans ht)]
   exact hr
 ·refine wp_skip (hQ h' a w ho' ?_)
  unfold oneP
  rw[if_neg (by rw[hone,hf];decide),List.append_nil]
  exact hr.norm (ZFT _)
theorem w_B7 {j:Nat} (hj:j < ls.length) (hrd:List.getD ls j (dflt (.int .i64))=r) (hs:0≤s∧s < (l.length:Int)) (hrr:0≤r∧r < (l.length:Int)) (hlim:(out.length+1)*24≤limit) (hkb:ZeK p r=true) (hbl:(Za1 p r).length < 1000000000000) (ho:OkS p l h.cont)
  (hr:RelH 78 Mod F0 w0 h ((stD p l out t h.m ss k s fr ls (j:Int)).put (some 68) (.d .bool b)) a w):
  (lpB dpK6).wp dProg (fun e a' w'=>(e=.normal∨e=.exit 7)∧∃h':HS,OkS p l h'.cont∧RelH 78 Mod F0 w0 h' (stD p l (out++oneP p l t s fr r) t h'.m ss k s fr ls (j:Int)) a' w') a w:=by
 rw[ZE7]
 refine wp_seq (pieceH dcl.1 dcl.2 (norm dProg labD14) (fun h=>Zah h) ((ZFS p l out t h.m ss k s fr (j:Int) ls b).ok (ZuB hj)) hr fun a w hr=>?_)
 rw[Int.toNat_natCast,hrd] at hr
 refine wp_seq (wp_seq (pieceH dcl.1 dcl.2 (norm dProg labD78) (fun h=>Zah h) ((ZFU p l out t h.m ss k s fr (j:Int) ls r).ok (ZwO hrr.1 hrr.2)) hr fun a w hr=>?_))
 refine wp_cond_split (t:=! (Zk fr (List.getD l (Int.toNat r) (dflt Zb)).2.1).1) (hr.evb (x:=.tmp 78) (by kernel_rfl)) (fun ht=>?_) (fun hf=>?_)
 ·-- not behind it
  refine wp_exit ⟨.inr rfl,h,ho,?_⟩
  have:¬hitP p l s fr r=true:=by
   unfold hitP
   rw[Bool.not_eq_true'] at ht
   rw[ht,Bool.false_and];exact Bool.false_ne_true
  unfold oneP
  rw[if_neg this,List.append_nil]
  exact hr.norm (dn_D _ _ _ _ _ _ _ _ _ _ _ _ _)
 refine wp_skip ?_
 have hhas:(Zk fr (List.getD l (Int.toNat r) (dflt Zb)).2.1).1=true:=by simpa using hf
 have hr:=hr.norm (ZFw p l out t h.m ss k s fr (j:Int) ls r _)
 have fin:∀(h':HS) (a:Act) (w:World),OkS p l h'.cont→getC h'.cont r=some (dBack p l r)→RelH 78 Mod F0 w0 h' (stD14 p l out t h'.m ss k s fr ls (j:Int) r) a w→
   (Code.seq (.region (ridC dp16) (ropsC dp16) false) (.cond (.tmp 106) dp17 .skip)).wp dProg (fun e a' w'=>(e=.normal∨e=.exit 7)∧∃h':HS,OkS p l h'.cont∧RelH 78 Mod F0 w0 h' (stD p l (out++oneP p l t s fr r) t h'.m ss k s fr ls (j:Int)) a' w') a w:=fun h' a w ho hg hr=>
  ZFN hs hrr hlim hhas ho hg hr fun h'' a'' w'' ho'' hr''=>⟨.inl rfl,h'',ho'',hr''⟩
 refine wp_seq (wp_seq (w_13 hr fun a w hr=>?_))
 have hev:=hr.evb (x:=.tmp 82) (b:=(h.at_ r).isNone) (by kernel_rfl)
 have hr:=hr.norm (ZFK _)
 have hat:=ZAe h r
 cases hc:h.at_ r with
 | none=>
  rw[hc] at hev hat
  refine wp_cond_true hev (wp_seq (w_14 hc hr fun e a w hek hed hr=>?_))
  refine wp_seq (pieceH dcl.1 dcl.2 (norm dProg labE) (fun h=>Zah h) ((ZFB p l out t h.m ss k s fr (j:Int) ls r).ok hkb) hr fun a w hr=>?_)
  have hnone:getC h.cont r=none:=hat.symm
  have hcont:(⟨h.m,h.es++[e]⟩:HS).cont=h.cont++[(r,Zq (Int.ofNat (List.length l)))]:=by
   unfold HS.cont
   rw[List.map_append]
   simp only[List.map_cons,List.map_nil,hek]
   rw[show (e.n,e.l)=Zq (Int.ofNat (List.length l)) from hed]
  refine w_K8 (h:=⟨h.m,h.es++[e]⟩) (d0:=Zq (Int.ofNat (List.length l))) hbl ?_ ?_ hr fun h' a w ho' hg' hr'=>?_
  ·intro r' hne d hd
   rw[hcont,ZAH hne] at hd
   exact ho r' d hd
  ·rw[hcont];exact ZD7 hnone
  ·refine fin h' a w (fun r' d hd=>?_) hg' hr'
   by_cases e:r'=r
   ·subst e
    rw[hg'] at hd
    exact (Option.some.inj hd).symm
   ·exact ho' r' e d hd
 | some e=>
  rw[hc] at hev hat
  have hg:getC h.cont r=some (e.n,e.l):=hat.symm
  have:=ho r _ hg
  exact wp_cond_false hev (wp_skip (fin h a w ho (by rw[hg,this]) hr))
end
end
end Go.Ev
end

section
open Go Go.Ev
namespace Go.Ev
noncomputable section
def insP (p:El Zc) (t:Int):List (El Za):=List.getD p.2 (Int.toNat t) (dflt (.sl Za))
def insL (l:List (El Zb)) (s:Int):Int:=(List.getD l (Int.toNat s) (dflt Zb)).2.1
def frS (p:El Zc) (l:List (El Zb)) (t s:Int):SetD:=putAll (Zq (Int.ofNat (List.length (insP p t)))) (ZaS (insP p t) (insL l s))
def outS (p:El Zc) (l:List (El Zb)) (t s:Int):List (El Zg):=(ZB l t false).flatMap (oneP p l t s (frS p l t s))
def outT (p:El Zc) (l:List (El Zb)) (t:Int):List (El Zg):=(ZB l t true).flatMap (outS p l t)
theorem Zhn {n:Nat} {M:Nat→Bool} :(listOf n M).length≤n:=by rw[Zfr];exact Zfa
theorem ZA4 (p:El Zc) (l:List (El Zb)) (t s:Int) (fr:SetD) (r:Int):(oneP p l t s fr r).length≤1:=by
 unfold oneP
 split <;> simp
theorem Zlc {α β:Type} {f:α→List β} {n:Nat} (h:∀x,(f x).length≤n):∀l:List α,(l.flatMap f).length≤l.length*n
 | []=>by simp
 | x :: l=>by
  have:=Zlc h l
  have:=h x
  rw[List.flatMap_cons,List.length_append,List.length_cons,Nat.add_mul]
  omega
theorem ZA8 (p:El Zc) (l:List (El Zb)) (t s:Int):(outS p l t s).length≤l.length:=by
 have h1:=Zlc (ZA4 p l t s (frS p l t s)) (ZB l t false)
 have h2:(ZB l t false).length≤l.length:=Zhn
 unfold outS
 omega
theorem ZDL (p:El Zc) (l:List (El Zb)) (t:Int):(outT p l t).length≤l.length*l.length:=by
 have h1:=Zlc (ZA8 p l t) (ZB l t true)
 have h2:(ZB l t true).length≤l.length:=Zhn
 have h3:=Nat.mul_le_mul_right l.length h2
 unfold outT
 omega
theorem Zy7 {α β:Type} {f:α→List β} {l:List α} {k:Nat} (hk:k < l.length) {x:α} (hx:l[k]? =some x):(l.take (k+1)).flatMap f=(l.take k).flatMap f++f x:=by
 rw[List.take_add_one,hx]
 simp
section
variable [Orgs] {Mod F0:Nat→Prop} {w0:World} {h:HS} {a:Act} {w:World} {Q:Exit→Act→World→Prop}
variable {p:El Zc} {l:List (El Zb)} {out:List (El Zg)} {t:Int} {m:Nat} {ss:List Int} {k s:Int} {fr:SetD} {fs:List Int} {j:Int} {ls:List Int} {r:Int} {bs:List Int} {i x:Int} {b:Bool}
theorem Zvr {ls:List Int} {j:Nat} (hj:j < ls.length):ls[j]? =some (List.getD ls j (dflt (.int .i64)))∧List.getD ls j (dflt (.int .i64))∈ls:=by
 have h:ls[j]? =some (List.getD ls j (dflt (.int .i64))):=by rw[List.getD_eq_getElem?_getD,List.getElem?_eq_getElem hj];rfl
 exact ⟨h,List.mem_of_getElem? h⟩
theorem lim1 {o f j n L:Nat} (h:(o+n+1)*24≤L) (h1:f≤min j n*1):(o+f+1)*24≤L:=Nat.le_trans (Nat.mul_le_mul_right _ (Nat.add_le_add_right (Nat.add_le_add_left (Nat.le_trans h1 (by rw[Nat.mul_one];exact Nat.min_le_right _ _)) _) _)) h
theorem lim2 {a b:Nat} (h:a≤b) (h1:b < 1000000000):a < 1000000000000:=Nat.lt_of_le_of_lt h (Nat.lt_trans h1 (by decide))
theorem lim3 {o a b L:Nat} (h:a≤b) (h1:(o+b+1)*24≤L):(o+a+1)*24≤L:=Nat.le_trans (Nat.mul_le_mul_right _ (Nat.add_le_add_right (Nat.add_le_add_left h _) _)) h1
attribute [local irreducible] stA stA5 stB stB9 stB10 stC stD stD14 stE St.put
theorem w_K6 (hs:0≤s∧s < (l.length:Int)) (hls:∀r∈ls,(0≤r∧r < (l.length:Int))∧ZeK p r=true∧(Za1 p r).length < 1000000000000) (hlen:ls.length < 1000000000000) (hlim:(out.length+ls.length+1)*24≤limit) (ho:OkS p l h.cont)
  (hr:RelH 78 Mod F0 w0 h (stD p l out t h.m ss k s fr ls 0) a w)
  (hQ:∀h' j b a' w',OkS p l h'.cont→RelH 78 Mod F0 w0 h' ((stD p l (out++ls.flatMap (oneP p l t s fr)) t h'.m ss k s fr ls j).put (some 68) (.d .bool b)) a' w'→Q .normal a' w'):dpK6.wp dProg Q a w:=by
 rw[ZE2]
 refine forLoop (fun j a w=>∃h:HS,OkS p l h.cont∧RelH 78 Mod F0 w0 h (stD p l (out++(ls.take j).flatMap (oneP p l t s fr)) t h.m ss k s fr ls (j:Int)) a w)
  (fun j a w=>∃h:HS,OkS p l h.cont∧RelH 78 Mod F0 w0 h ((stD p l (out++(ls.take j).flatMap (oneP p l t s fr)) t h.m ss k s fr ls (j:Int)).put (some 68) (.d .bool (decide ((j:Int) < Int.ofNat (List.length ls))))) a w)
  (fun j a w=>∃h:HS,OkS p l h.cont∧RelH 78 Mod F0 w0 h (stD p l (out++(ls.take (j+1)).flatMap (oneP p l t s fr)) t h.m ss k s fr ls (j:Int)) a w)
  ls.length (toGo 67 ls.length) ?_ ?_ ?_ ?_ ?_ ⟨h,ho,by simpa using hr⟩ ?_
 ·intro j a w hj ⟨h,ho,hr⟩
  exact pieceH dcl.1 dcl.2 (fun s=>s) (fun h=>h) (ZFJ _ _ _ _ _ _ _ _ _ _ _) hr fun a' w' hr'=>⟨rfl,h,ho,hr'⟩
 ·intro j a w hj ⟨h,ho,hr⟩
  rw[hr.evb (x:=.tmp 68) (b:=decide ((j:Int) < Int.ofNat (List.length ls))) (by kernel_rfl),ZxZ]
 ·intro j a w hj ⟨h,ho,hr⟩
  obtain ⟨g1,g2⟩:=Zvr hj
  obtain ⟨q1,q2,q3⟩:=hls _ g2
  rw[Zy7 hj g1,←List.append_assoc]
  refine w_B7 hj rfl hs q1 ?_ q2 q3 ho hr
  have h1:=Zlc (ZA4 p l t s fr) (ls.take j)
  rw[List.length_append]
  rw[List.length_take] at h1
  exact lim1 hlim h1
 ·intro j a w hj ⟨h,ho,hr⟩
  have e:=ZFX p l (out++(ls.take (j+1)).flatMap (oneP p l t s fr)) t h.m ss k s fr (j:Int) ls
  rw[Zz (by omega)] at e
  exact pieceH dcl.1 dcl.2 (norm dProg labD) (fun h=>Zah h) e hr fun a' w' hr'=>⟨rfl,h,ho,hr'⟩
 ·intro j a w hj ⟨h,ho,hr⟩
  unfold toGo
  rw[hr.ev (x:=.tmp 67) (k:=.i64) (n:=(j:Int)) (by kernel_rfl)]
  rfl
 ·intro a w ⟨h,ho,hr⟩
  rw[List.take_length] at hr
  exact hQ h _ _ a w ho hr
theorem w_K4 (hlen:fs.length < 1000000000000) (hr:RelH 78 Mod F0 w0 h (stC p l out t h.m ss k s fr fs 0) a w)
  (hQ:∀j b a' w',RelH 78 Mod F0 w0 h ((stC p l out t h.m ss k s (putAll fr fs) fs j).put (some 56) (.d .bool b)) a' w'→Q .normal a' w'):dpK4.wp dProg Q a w:=by
 rw[ZFb]
 refine forLoop (fun j a w=>RelH 78 Mod F0 w0 h (stC p l out t h.m ss k s (putAll fr (fs.take j)) fs (j:Int)) a w)
  (fun j a w=>RelH 78 Mod F0 w0 h ((stC p l out t h.m ss k s (putAll fr (fs.take j)) fs (j:Int)).put (some 56) (.d .bool (decide ((j:Int) < Int.ofNat (List.length fs))))) a w)
  (fun j a w=>RelH 78 Mod F0 w0 h (stC p l out t h.m ss k s (putAll fr (fs.take (j+1))) fs (j:Int)) a w)
  fs.length (toGo 55 fs.length) ?_ ?_ ?_ ?_ ?_ hr ?_
 ·intro j a w hj hr
  exact pieceH dcl.1 dcl.2 (fun s=>s) (fun h=>h) (ZFR _ _ _ _ _ _ _ _ _ _ _) hr fun a' w' hr'=>⟨rfl,hr'⟩
 ·intro j a w hj hr
  rw[hr.evb (x:=.tmp 56) (b:=decide ((j:Int) < Int.ofNat (List.length fs))) (by kernel_rfl),ZxZ]
 ·intro j a w hj hr
  refine pieceH dcl.1 dcl.2 (norm dProg labC) (fun h=>Zah h) ((ZFG p l out t h.m ss k s (putAll fr (fs.take j)) fs (j:Int) _).ok (ZuB hj)) hr fun a' w' hr'=>⟨.inl rfl,?_⟩
  have:putAll fr (fs.take (j+1))=(Zl (putAll fr (fs.take j)) (List.getD fs (Int.toNat (j:Int)) (dflt (.int .i64)))).2:=by
   rw[List.take_succ_eq_append_getElem hj]
   unfold putAll
   rw[List.foldl_append]
   simp only[List.foldl_cons,List.foldl_nil]
   rw[Int.toNat_natCast,List.getD_eq_getElem?_getD,List.getElem?_eq_getElem hj]
   rfl
  rw[this]
  exact hr'
 ·intro j a w hj hr
  have e:=ZFF p l out t h.m ss k s (putAll fr (fs.take (j+1))) fs (j:Int)
  rw[Zz (by omega)] at e
  exact pieceH dcl.1 dcl.2 (norm dProg labC) (fun h=>Zah h) e hr fun a' w' hr'=>⟨rfl,hr'⟩
 ·intro j a w hj hr
  unfold toGo
  rw[hr.ev (x:=.tmp 55) (k:=.i64) (n:=(j:Int)) (by kernel_rfl)]
  rfl
 ·intro a w hr
  rw[List.take_length] at hr
  exact hQ _ _ a w hr
structure DelayOK (p:El Zc) (l:List (El Zb)):Prop where
 len:l.length < 1000000000
 thr:p.2.length < 1000000000
 all:(p.2.length*(l.length*l.length)+1)*24≤limit
 back:∀r:Int,ZeK p r=true∧(Za1 p r).length < 1000000000000
 flow:∀(t:Nat) (i:Int),t < p.2.length→Zfz (insP p (t:Int)) i=true∧(ZaS (insP p (t:Int)) i).length < 1000000000000
theorem ZAX {l:List (El Zb)} {t:Int} {b:Bool} {r:Int} (h:r∈ZB l t b):0≤r∧r < (l.length:Int):=by
 obtain ⟨i,hi,_,rfl⟩:=Zbq.1 h
 omega
theorem w_B3 (hd:DelayOK p l) {t:Nat} (ht:t < p.2.length) {k:Nat} (hk:k < ss.length) (hss:∀s∈ss,0≤s∧s < (l.length:Int)) (hlim:(out.length+l.length+1)*24≤limit) (ho:OkS p l h.cont)
  (hr:RelH 78 Mod F0 w0 h ((stB p l out (t:Int) h.m ss (k:Int)).put (some 32) (.d .bool b)) a w):
  (lpB dpK2).wp dProg (fun e a' w'=>(e=.normal∨e=.exit 3)∧∃(h':HS) (s:Int) (fr:SetD) (ls:List Int) (j:Int) (b:Bool),OkS p l h'.cont∧RelH 78 Mod F0 w0 h' ((stD p l (out++outS p l (t:Int) (List.getD ss k (dflt (.int .i64)))) (t:Int) h'.m ss (k:Int) s fr ls j).put (some 68) (.d .bool b)) a' w') a w:=by
 obtain ⟨g1,g2⟩:=Zvr hk
 have hs:=hss _ g2
 obtain ⟨f1,f2⟩:=hd.flow t (insL l (List.getD ss k (dflt (.int .i64)))) ht
 rw[ZEU]
 refine wp_seq (pieceH dcl.1 dcl.2 (norm dProg labB9) (fun h=>Zah h) ((dp_7 p l out (t:Int) h.m ss (k:Int) b).ok (ZuB hk)) hr fun a w hr=>?_)
 rw[Int.toNat_natCast] at hr
 refine wp_seq (pieceH dcl.1 dcl.2 (norm dProg labB10) (fun h=>Zah h) ((dp_8 p l out (t:Int) h.m ss (k:Int) _).ok (ZuB ht)) hr fun a w hr=>?_)
 refine wp_seq (wp_seq (pieceH dcl.1 dcl.2 (norm dProg labC) (fun h=>Zah h) ((dp_9 p l out (t:Int) h.m ss (k:Int) _ _).ok (by rw[ZuB ht,ZwO hs.1 hs.2];exact f1)) hr fun a w hr=>?_))
 refine w_K4 f2 hr fun j b a w hr=>?_
 have hkp:Zce l (t:Int) false=true:=decide_eq_true hd.len
 refine wp_seq (pieceH dcl.1 dcl.2 (norm dProg labD) (fun h=>Zah h) ((ZFP p l out (t:Int) h.m ss (k:Int) _ _ _ _ _).ok hkp) hr fun a w hr=>?_)
 have hl2:(ZB l (t:Int) false).length≤l.length:=Zhn
 refine w_K6 hs (fun r hrm=>⟨ZAX hrm,hd.back r⟩) (lim2 hl2 hd.len) (lim3 hl2 hlim) ho hr fun h' j b a w ho hr=>⟨.inl rfl,h',_,_,_,j,b,ho,hr⟩
end
end
end Go.Ev
end

section
open Go Go.Ev
namespace Go.Ev
noncomputable section
theorem limA {o c n N L:Nat} (hc:c < n) (h:(o+n*N+1)*24≤L) {f:Nat} (hf:f≤min c n*N):(o+f+N+1)*24≤L:=by
 refine Nat.le_trans (Nat.mul_le_mul_right _ (Nat.add_le_add_right ?_ _)) h
 rw[Nat.add_assoc]
 refine Nat.add_le_add_left ?_ _
 have h1:(c+1)*N≤n*N:=Nat.mul_le_mul_right _ hc
 have h2:min c n*N≤c*N:=Nat.mul_le_mul_right _ (Nat.min_le_left _ _)
 rw[Nat.succ_mul] at h1
 exact Nat.le_trans (Nat.add_le_add_right (Nat.le_trans hf h2) _) h1
section
variable [Orgs] {Mod F0:Nat→Prop} {w0:World} {h:HS} {a:Act} {w:World} {Q:Exit→Act→World→Prop}
variable {p:El Zc} {l:List (El Zb)} {out:List (El Zg)} {m:Nat} {ss:List Int} {b:Bool}
attribute [local irreducible] stA stA5 stB stB9 stB10 stC stD stD14 stE St.put
theorem w_K2 (hd:DelayOK p l) {t:Nat} (ht:t < p.2.length) (hss:∀s∈ss,0≤s∧s < (l.length:Int)) (hlen:ss.length < 1000000000000) (hlim:(out.length+ss.length*l.length+1)*24≤limit) (ho:OkS p l h.cont)
  (hr:RelH 78 Mod F0 w0 h (stB p l out (t:Int) h.m ss 0) a w)
  (hQ:∀h' k b a' w',RelH 78 Mod F0 w0 h' ((stB p l (out++ss.flatMap (outS p l (t:Int))) (t:Int) h'.m ss k).put (some 32) (.d .bool b)) a' w'→Q .normal a' w'):dpK2.wp dProg Q a w:=by
 rw[ZET]
 refine forLoop (fun k a w=>∃h:HS,OkS p l h.cont∧RelH 78 Mod F0 w0 h (stB p l (out++(ss.take k).flatMap (outS p l (t:Int))) (t:Int) h.m ss (k:Int)) a w)
  (fun k a w=>∃h:HS,OkS p l h.cont∧RelH 78 Mod F0 w0 h ((stB p l (out++(ss.take k).flatMap (outS p l (t:Int))) (t:Int) h.m ss (k:Int)).put (some 32) (.d .bool (decide ((k:Int) < Int.ofNat (List.length ss))))) a w)
  (fun k a w=>∃(h:HS) (s:Int) (fr:SetD) (ls:List Int) (j:Int) (b:Bool),OkS p l h.cont∧RelH 78 Mod F0 w0 h ((stD p l (out++(ss.take (k+1)).flatMap (outS p l (t:Int))) (t:Int) h.m ss (k:Int) s fr ls j).put (some 68) (.d .bool b)) a w)
  ss.length (toGo 31 ss.length) ?_ ?_ ?_ ?_ ?_ ⟨h,ho,by simpa using hr⟩ ?_
 ·intro k a w hk ⟨h,ho,hr⟩
  exact pieceH dcl.1 dcl.2 (fun s=>s) (fun h=>h) (ZFO _ _ _ _ _ _ _) hr fun a' w' hr'=>⟨rfl,h,ho,hr'⟩
 ·intro k a w hk ⟨h,ho,hr⟩
  rw[hr.evb (x:=.tmp 32) (b:=decide ((k:Int) < Int.ofNat (List.length ss))) (by kernel_rfl),ZxZ]
 ·intro k a w hk ⟨h,ho,hr⟩
  obtain ⟨g1,g2⟩:=Zvr hk
  rw[Zy7 hk g1,←List.append_assoc]
  refine w_B3 hd ht hk hss ?_ ho hr
  have h1:=Zlc (ZA8 p l (t:Int)) (ss.take k)
  rw[List.length_append]
  rw[List.length_take] at h1
  exact limA hk hlim h1
 ·intro k a w hk ⟨h,s,fr,ls,j,b,ho,hr⟩
  have e:=ZFW p l (out++(ss.take (k+1)).flatMap (outS p l (t:Int))) (t:Int) h.m ss (k:Int) s fr j ls b
  rw[Zz (Nat.lt_trans (Nat.lt_trans hk hlen) (by decide))] at e
  exact pieceH dcl.1 dcl.2 (norm dProg labB) (fun h=>Zah h) e hr fun a' w' hr'=>⟨rfl,h,ho,hr'⟩
 ·intro k a w hk ⟨h,ho,hr⟩
  unfold toGo
  rw[hr.ev (x:=.tmp 31) (k:=.i64) (n:=(k:Int)) (by kernel_rfl)]
  rfl
 ·intro a w ⟨h,ho,hr⟩
  rw[List.take_length] at hr
  exact hQ h _ _ a w hr
def outN (p:El Zc) (l:List (El Zb)) (n:Nat):List (El Zg):=(List.range n).flatMap fun t:Nat=>outT p l (t:Int)
theorem ZDM (p:El Zc) (l:List (El Zb)) (n:Nat):(outN p l n).length≤n*(l.length*l.length):=by
 have:=Zlc (fun t:Nat=>ZDL p l (t:Int)) (List.range n)
 rw[List.length_range] at this
 unfold outN
 exact this
theorem ZDd (p:El Zc) (l:List (El Zb)) (n:Nat):outN p l (n+1)=outN p l n++outT p l (n:Int):=by
 unfold outN
 rw[List.range_succ,List.flatMap_append]
 simp
theorem limC {c n N L:Nat} (hc:c < n) (h:(n*(N*N)+1)*24≤L) {o s:Nat} (ho:o≤c*(N*N)) (hs:s≤N):(o+s*N+1)*24≤L:=by
 refine Nat.le_trans (Nat.mul_le_mul_right _ (Nat.add_le_add_right ?_ _)) h
 have h1:(c+1)*(N*N)≤n*(N*N):=Nat.mul_le_mul_right _ hc
 rw[Nat.succ_mul] at h1
 exact Nat.le_trans (Nat.add_le_add ho (Nat.mul_le_mul_right _ hs)) h1
theorem ZEG (p:El Zc) (l:List (El Zb)) (m:Nat):OkS p l (⟨m,[]⟩:HS).cont:=fun r d hrd=>by cases hrd
theorem w_B1 (hd:DelayOK p l) {t:Nat} (ht:t < p.2.length) (hr:Rel Mod F0 w0 ((stA p l (outN p l t) (t:Int)).put (some 23) (.d .bool b)) a w):
  (lpB dpK0).wp dProg (fun e a' w'=>(e=.normal∨e=.exit 1)∧∃(m:Nat) (ss:List Int) (k:Int) (b:Bool),Rel Mod F0 w0 ((stB p l (outN p l (t+1)) (t:Int) m ss k).put (some 32) (.d .bool b)) a' w') a w:=by
 rw[ZE1]
 refine wp_seq (piece dcl.1 dcl.2 (norm dProg labA5) (fun h=>Zah h) (dp_4 p l (outN p l t) (t:Int) b) hr fun a w hr=>?_)
 have hkp:Zce l (t:Int) true=true:=decide_eq_true hd.len
 refine wp_seq (w_5 hkp hr fun m a w hr=>?_)
 refine wp_seq (pieceH dcl.1 dcl.2 (norm dProg labB) (fun h=>Zah h) dp_6 hr fun a w hr=>?_)
 have hl2:(ZB l (t:Int) true).length≤l.length:=Zhn
 refine w_K2 (h:=⟨m,[]⟩) hd ht (fun s hs=>ZAX hs) (lim2 hl2 hd.len) (limC ht hd.all (ZDM p l t) hl2) (ZEG p l m) hr fun h' k b a w hr=>⟨.inl rfl,h'.m,ZB l (t:Int) true,k,b,?_⟩
 rw[ZDd]
 exact hr.out
theorem w_K0 (hd:DelayOK p l) (hr:Rel Mod F0 w0 (stA p l [] 0) a w)
  (hQ:∀t b a' w',Rel Mod F0 w0 ((stA p l (outN p l p.2.length) t).put (some 23) (.d .bool b)) a' w'→Q .normal a' w'):dpK0.wp dProg Q a w:=by
 rw[ZE9]
 refine forLoop (fun t a w=>Rel Mod F0 w0 (stA p l (outN p l t) (t:Int)) a w)
  (fun t a w=>Rel Mod F0 w0 ((stA p l (outN p l t) (t:Int)).put (some 23) (.d .bool (decide ((t:Int) < Int.ofNat (List.length p.2))))) a w)
  (fun t a w=>∃(m:Nat) (ss:List Int) (k:Int) (b:Bool),Rel Mod F0 w0 ((stB p l (outN p l (t+1)) (t:Int) m ss k).put (some 32) (.d .bool b)) a w)
  p.2.length (toGo 22 p.2.length) ?_ ?_ ?_ ?_ ?_ hr ?_
 ·intro t a w ht hr
  exact piece dcl.1 dcl.2 (fun s=>s) (fun h=>h) (ZFM _ _ _ _) hr fun a' w' hr'=>⟨rfl,hr'⟩
 ·intro t a w ht hr
  rw[hr.evb (x:=.tmp 23) (b:=decide ((t:Int) < Int.ofNat (List.length p.2))) (by kernel_rfl),ZxZ]
 ·intro t a w ht hr
  exact w_B1 hd ht hr
 ·intro t a w ht ⟨m,ss,k,b,hr⟩
  have e:=ZFE p l (outN p l (t+1)) (t:Int) m ss k b
  rw[Zz (Nat.lt_trans (Nat.lt_trans ht hd.thr) (by decide))] at e
  exact piece dcl.1 dcl.2 (norm dProg labA) (fun h=>Zah h) e hr fun a' w' hr'=>⟨rfl,hr'⟩
 ·intro t a w ht hr
  unfold toGo
  rw[hr.ev (x:=.tmp 22) (k:=.i64) (n:=(t:Int)) (by kernel_rfl)]
  rfl
 ·intro a w hr
  exact hQ _ _ a w hr
end
end
end Go.Ev
end

section
open Go Go.Ev
namespace Go.Ev
def Zjb:Sig:=[(true,Zc)]
noncomputable def Zo (p:El Zc):List (El Zg):=outN p (ofC p) p.2.length
def ZH (p:El Zc):Bool:=smallAll p&&(decide ((ofC p).length < 1000000000)&&(decide (p.2.length < 1000000000)&&decide ((p.2.length*((ofC p).length*(ofC p).length)+1)*24≤limit)))
def ZpD:List (El Zg)→AV:=fun (r:List (El Zg))=>.rw 66 Zg r
theorem Zyq {x:List (El Za)} :∀ {l:List (List (El Za))},x∈l→x.length≤total l
 | y :: l,h=>by
  unfold total at*
  rw[List.map_cons,List.sum_cons]
  rcases List.mem_cons.1 h with rfl | h
  ·exact Nat.le_add_right _ _
  ·exact Nat.le_trans (by have:=Zyq h;unfold total at this;exact this) (Nat.le_add_left _ _)
theorem Zz0 (p:El Zc) (a:Int):(Za1 p a).length≤(ofC p).length:=by
 unfold Za1
 split
 ·exact Zhn
 ·exact Nat.zero_le _
theorem delayOK {p:El Zc} (hk:ZH p=true):smallAll p=true∧DelayOK p (ofC p):=by
 unfold ZH at hk
 simp only[Bool.and_eq_true] at hk
 obtain ⟨h1,h2,h3,h4⟩:=hk
 have h2:=of_decide_eq_true h2
 have hA:=smallA h1
 refine ⟨h1,h2,of_decide_eq_true h3,of_decide_eq_true h4,fun r=>⟨h1,Nat.lt_of_le_of_lt (Zz0 p r) (Nat.lt_trans h2 (by decide))⟩,fun t i ht=>?_⟩
 have hm:insP p (t:Int)∈p.2:=by
  unfold insP
  rw[Int.toNat_natCast,List.getD_eq_getElem?_getD,List.getElem?_eq_getElem ht]
  exact List.getElem_mem ht
 have hf:=Zqd (hA.thr _ hm)
 have h1:(ZaS (insP p (t:Int)) i).length≤(insP p (t:Int)).length:=Zhn
 have h2:(insP p (t:Int)).length < 1073741824:=by
  exact Nat.lt_of_le_of_lt (Zyq hm) hA.tot
 exact ⟨hf,Nat.lt_of_le_of_lt h1 (Nat.lt_trans h2 (by decide))⟩
noncomputable section
theorem dp_E (p:El Zc) (l:List (El Zb)) (out:List (El Zg)) (t:Int) (b:Bool):dEvI dpE ((stA p l out t).put (some 23) (.d .bool b)) ((((stA p l out t).put (some 23) (.d .bool b)).put (some 125) (.own 5 0 none)).put (some 2) (.own 5 0 none)):=fun L k x r=>by kernel_rfl
theorem Zpx (p:El Zc) (hk:ZH p=true):CallOK dProg 6 (toForms Zjb (p,())) (ZpD (Zo p),tps (toForms Zjb (p,()))):=by
 obtain ⟨hs,hd⟩:=delayOK hk
 refine Zqv (tb:=[]) (fn:=Go.Proofs.Tryz.f6) (c:=dpB) (vs:=[.ag [.d (.sl ZJ) p.1,.d (.sl (.sl Za)) p.2]]) (st:=⟨[],[]⟩) (by kernel_rfl) (by kernel_rfl) (by kernel_rfl) ?_
 intro _ Mod F0 w0 a w hr
 have hr:Rel Mod F0 w0 (dS0 p) a w:=hr
 rw[ZFv]
 refine wp_seq (piece dcl.1 dcl.2 (norm dProg ⟨[1],[]⟩) (fun h=>Zah h) (dp_0 p) hr fun a w hr=>?_)
 refine wp_seq (piece dcl.1 dcl.2 (norm dProg ⟨[1,3],[]⟩) (fun h=>Zah h) ((dp_1 p).ok hs) hr fun a w hr=>?_)
 refine wp_seq (piece dcl.1 dcl.2 (norm dProg ⟨[1,3,4],[(5,78)]⟩) (fun h=>Zah h) (dp_2 p (Zt p)) hr fun a w hr=>?_)
 refine wp_seq (wp_seq (piece dcl.1 dcl.2 (norm dProg labA) (fun h=>Zah h) (dp_3 p (Zt p)) hr fun a w hr=>?_))
 refine w_K0 (l:=ofC p) hd hr fun t b a w hr=>?_
 refine wp_seq (piece dcl.1 dcl.2 (fun s=>s) (fun h=>h) (dp_E p (ofC p) (outN p (ofC p) p.2.length) t b) hr fun a w hr=>?_)
 exact wp_ret ⟨.inr rfl,_,hr,by kernel_rfl⟩
noncomputable def Zhk:Run:=entG Zjb ZpD (fun a=>ZH a.1) (fun a=>Zo a.1)
theorem Zje:EntOK dProg 6 Zhk:=ZCR (Zpn (fn:=Go.Proofs.Tryz.f6) (c:=dpB) (by kernel_rfl) (by kernel_rfl) (by kernel_rfl)) fun a h=>Zpx a.1 h
end
end Go.Ev
end

section
open Go Go.Ev
namespace Go.Ev
noncomputable section
def ZdP:Sig:=[]
noncomputable def ZlI:Tbl:=[]
theorem ZwE:∀p∈ZlI,EntOK Go.Proofs.Tryz.prog p.1 p.2:=Zu
noncomputable def ZiX:Code:=Go.Proofs.Tryz.f19.body.getD .skip
def Zj0:Tb:=[]
def ZqE:Empty→JT Empty (El Zc):=fun j=>nomatch j
def ZoP:JT Empty (El Zc):=.leaf ([((bs [120]),((1:Int),[])),((bs [121]),((1:Int),[]))],[[((1:Int),(false,((0:Int),(((3:Int),((0:Int),((0:Int),(0:Int)))),(((2:Int),((0:Int),((0:Int),(1:Int)))),((bs []),[])))))),((1:Int),(false,((0:Int),(((1:Int),((0:Int),((0:Int),(0:Int)))),(((3:Int),((0:Int),((1:Int),(0:Int)))),((bs []),[])))))),((14:Int),(false,((0:Int),(((0:Int),((0:Int),((0:Int),(0:Int)))),(((0:Int),((0:Int),((0:Int),(0:Int)))),((bs []),[]))))))],[((1:Int),(false,((0:Int),(((3:Int),((0:Int),((1:Int),(0:Int)))),(((2:Int),((0:Int),((0:Int),(1:Int)))),((bs []),[])))))),((1:Int),(false,((0:Int),(((1:Int),((0:Int),((0:Int),(0:Int)))),(((3:Int),((0:Int),((0:Int),(0:Int)))),((bs []),[])))))),((14:Int),(false,((0:Int),(((0:Int),((0:Int),((0:Int),(0:Int)))),(((0:Int),((0:Int),((0:Int),(0:Int)))),((bs []),[]))))))]])
def Zw:El Zc:=([((bs [120]),((1:Int),[])),((bs [121]),((1:Int),[]))],[[((1:Int),(false,((0:Int),(((3:Int),((0:Int),((0:Int),(0:Int)))),(((2:Int),((0:Int),((0:Int),(1:Int)))),((bs []),[])))))),((1:Int),(false,((0:Int),(((1:Int),((0:Int),((0:Int),(0:Int)))),(((3:Int),((0:Int),((1:Int),(0:Int)))),((bs []),[])))))),((14:Int),(false,((0:Int),(((0:Int),((0:Int),((0:Int),(0:Int)))),(((0:Int),((0:Int),((0:Int),(0:Int)))),((bs []),[]))))))],[((1:Int),(false,((0:Int),(((3:Int),((0:Int),((1:Int),(0:Int)))),(((2:Int),((0:Int),((0:Int),(1:Int)))),((bs []),[])))))),((1:Int),(false,((0:Int),(((1:Int),((0:Int),((0:Int),(0:Int)))),(((3:Int),((0:Int),((0:Int),(0:Int)))),((bs []),[])))))),((14:Int),(false,((0:Int),(((0:Int),((0:Int),((0:Int),(0:Int)))),(((0:Int),((0:Int),((0:Int),(0:Int)))),((bs []),[]))))))]])
theorem ZxN:Goes (ZqE) (ZoP) (Zw):=Goes.leaf
def ZiD:El Zc→AV:=fun (r:El Zc)=>.ag [.rw 45 ZJ r.1,.rw 31 (.sl Za) r.2]
def Zda:Empty→Nat×St:=fun j=>nomatch j
theorem ZvL (L:Lt):entryA Go.Proofs.Tryz.prog (clOf ZlI) Zj0 Go.Proofs.Tryz.f19 ZiX L (toForms ZdP (()))=(ZoP).run (fun v=>some (ZiD v,tps (toForms ZdP (())))) fun j=>L (Zda j).1 (Zda j).2:=by kernel_rfl
theorem Zvy:∀(L:Lt) (j:Empty),procOf (procsF Go.Proofs.Tryz.prog (clOf ZlI) Zj0 Go.Proofs.Tryz.f19 ZiX (toForms ZdP (()))) (Zda j).1 L (Zda j).2=(ZqE j).run (fun v=>some (ZiD v,tps (toForms ZdP (())))) fun j=>L (Zda j).1 (Zda j).2:=fun L j=>nomatch j
noncomputable def ZqK:Run:=entT ZdP ZiD (fun a=>Zw)
theorem Zv2:EntOK Go.Proofs.Tryz.prog 19 ZqK:=Zaf (tb:=Zj0) (c:=ZiX) ZwE (by kernel_rfl) (by kernel_rfl) (by kernel_rfl) (fun a=>by kernel_rfl) fun _=>Zp (c:=ZiX) (K:=fun v=>(ZiD v,tps (toForms ZdP (())))) (S:=Zda) (by kernel_rfl) (ZvL) (Zvy) (ZxN)
end
end Go.Ev
end

section
open Go Go.Ev
namespace Go.Ev
noncomputable section
def Zbb:Sig:=[(false,(.sl Zg)),(false,(.sl Zg))]
noncomputable def Zgz:Tbl:=[]
theorem Zp8:∀p∈Zgz,EntOK Go.Proofs.Tryz.prog p.1 p.2:=Zu
noncomputable def Zed:Code:=Go.Proofs.Tryz.f20.body.getD .skip
def ZfI:Tb:=[(6,⟨[0,1,5],[]⟩)]
inductive Zcw where | l6 (i:Int)
def Zcv (a:List (El Zg)) (b:List (El Zg)):Zcw→JT Zcw (Bool) |.l6 i=>.br (decide (i < (Int.ofNat (List.length a)))) (.br ((decide ((0:Int)≤i))&&(decide (i < (Int.ofNat (List.length a))))) (.br ((decide ((0:Int)≤i))&&(decide (i < (Int.ofNat (List.length b))))) (.br (! (((List.getD a (Int.toNat i) (dflt Zg)).1==(List.getD b (Int.toNat i) (dflt Zg)).1)&&(((List.getD a (Int.toNat i) (dflt Zg)).2.1==(List.getD b (Int.toNat i) (dflt Zg)).2.1)&&((List.getD a (Int.toNat i) (dflt Zg)).2.2==(List.getD b (Int.toNat i) (dflt Zg)).2.2)))) (.leaf false) (.jmp (.l6 (IntKind.i64.wrap (i+(1:Int)))))) (.no)) (.no)) (.leaf true)
def ZfQ (a:List (El Zg)) (b:List (El Zg)):JT Zcw (Bool):=.br ((Int.ofNat (List.length a)) !=(Int.ofNat (List.length b))) (.leaf false) (.jmp (.l6 (0:Int)))
def Zeb:Bool→AV:=fun (r:Bool)=>.d .bool r
def Za5 (a:List (El Zg)) (b:List (El Zg)):Zcw→Nat×St |.l6 i=>(6,⟨mkTm 26 [(0,.d (.sl Zg) a),(1,.d (.sl Zg) b),(5,.d (.int .i64) i)],[]⟩)
theorem Zp1 (a:List (El Zg)) (b:List (El Zg)) (L:Lt):entryA Go.Proofs.Tryz.prog (clOf Zgz) ZfI Go.Proofs.Tryz.f20 Zed L (toForms Zbb (a,b,()))=(ZfQ a b).run (fun v=>some (Zeb v,tps (toForms Zbb (a,b,())))) fun j=>L (Za5 a b j).1 (Za5 a b j).2:=by kernel_rfl
theorem ZpM (a:List (El Zg)) (b:List (El Zg)):∀(L:Lt) (j:Zcw),procOf (procsF Go.Proofs.Tryz.prog (clOf Zgz) ZfI Go.Proofs.Tryz.f20 Zed (toForms Zbb (a,b,()))) (Za5 a b j).1 L (Za5 a b j).2=(Zcv a b j).run (fun v=>some (Zeb v,tps (toForms Zbb (a,b,())))) fun j=>L (Za5 a b j).1 (Za5 a b j).2 | L,.l6 i=>by kernel_rfl
end
end Go.Ev
end

section
open Go
namespace Go.Ev
theorem ZA6 {a b:El Zg} :(a.1==b.1&&(a.2.1==b.2.1&&a.2.2==b.2.2))=decide (a=b):=by
 obtain ⟨a1,a2,a3⟩:=a
 obtain ⟨b1,b2,b3⟩:=b
 rw[Bool.eq_iff_iff]
 simp
def Zaz (a b:List (El Zg)):Bool:=decide (a=b)
def Zam (a b:List (El Zg)):Bool:=decide (a.length < 4611686018427387904)
theorem Zq5 (a b:List (El Zg)) (hk:Zam a b=true):Goes (Zcv a b) (ZfQ a b) (Zaz a b):=by
 have hn:a.length < 4611686018427387904:=of_decide_eq_true hk
 have loop:a.length=b.length→∀k,k≤a.length→Goes (Zcv a b) (.jmp (.l6 (k:Int))) (decide (a.drop k=b.drop k)):=by
  intro he
  refine down ?_ fun k hk ih=>?_
  ·rw[Zn]
   simp[Zcv,Zf,Z9,he]
  ·rw[Zn]
   have hkb:k < b.length:=he▸hk
   simp only[Zcv,Zf,ZaK hk,ZaK hkb,nng,Bool.and_self,if_true,Int.toNat_natCast,Z4 hk,Z4 hkb,Zz (k:=k) (by omega)]
   rw[Z3 hk,Z3 hkb]
   split
   ·rename_i h1
    have h2:(! decide (a[k]=b[k]))=true:=(congrArg Bool.not ZA6).symm.trans h1
    have h3:¬a[k]=b[k]:=by simpa using h2
    rw[decide_eq_false (fun e=>h3 (List.cons.inj e).1)]
    exact .leaf
   ·rename_i h1
    have h2:¬(! decide (a[k]=b[k]))=true:=fun h=>h1 ((congrArg Bool.not ZA6).trans h)
    have h3:a[k]=b[k]:=by simpa using h2
    rw[show decide (a[k] :: List.drop (k+1) a=b[k] :: List.drop (k+1) b)=decide (List.drop (k+1) a=List.drop (k+1) b) from decide_eq_decide.2 ⟨fun e=>(List.cons.inj e).2,fun e=>by rw[h3,e]⟩]
    exact ih
 unfold ZfQ Zaz
 rw[Zf]
 by_cases h:a.length=b.length
 ·have:=loop h 0 (Nat.zero_le _)
  simpa[h] using this
 ·have:a≠b:=fun e=>h (congrArg _ e)
  rw[if_pos (by simp;omega),decide_eq_false this]
  exact .leaf
end Go.Ev
end

section
open Go Go.Ev
namespace Go.Ev
noncomputable section
noncomputable def Zlk:Run:=entG Zbb Zeb (fun a=>Zam a.1 a.2.1) (fun a=>Zaz a.1 a.2.1)
theorem ZpQ:EntOK Go.Proofs.Tryz.prog 20 Zlk:=Zao (tb:=ZfI) (c:=Zed) Zp8 (by kernel_rfl) (by kernel_rfl) (by kernel_rfl) (fun a=>by kernel_rfl) fun ⟨a,b,_⟩ hk=>Zp (c:=Zed) (K:=fun v=>(Zeb v,tps (toForms Zbb (a,b,())))) (S:=Za5 a b) (by kernel_rfl) (Zp1 a b) (ZpM a b) (Zq5 a b hk)
end
end Go.Ev
end

section
open Go Go.Ev
namespace Go.Ev
noncomputable section
def ZeL:Sig:=[(true,Za)]
noncomputable def Zoo:Tbl:=[(49,Zeq),(30,Zmq)]
theorem Zzc:∀p∈Zoo,EntOK Go.Proofs.Tryz.prog p.1 p.2:=Zi ZeR (Zi ZoJ (Zu))
noncomputable def ZkO:Code:=Go.Proofs.Tryz.f72.body.getD .skip
def ZlC:Tb:=[]
def ZsY (i:El Za):Empty→JT Empty (Bool):=fun j=>nomatch j
def Zq2 (i:El Za):JT Empty (Bool):=.br (ZM i) (.br ((Zr i)==(0:Int)) (.br (i.1==(12:Int)) (.leaf true) (.br (ZaD i) (.leaf (Z7 i)) (.no))) (.br (ZaD i) (.leaf (Z7 i)) (.no))) (.no)
def Zhp (i:El Za):Bool:=bif (ZM i) then bif ((Zr i)==(0:Int)) then bif (i.1==(12:Int)) then true else bif (ZaD i) then (Z7 i) else false else bif (ZaD i) then (Z7 i) else false else false
def ZfR (i:El Za):Bool:=bif (ZM i) then bif ((Zr i)==(0:Int)) then bif (i.1==(12:Int)) then true else bif (ZaD i) then true else false else bif (ZaD i) then true else false else false
theorem ZAt (i:El Za) (hk:ZfR i=true):Goes (ZsY i) (Zq2 i) (Zhp i):=Goes.brk hk (fun hk=>Goes.brk hk (fun hk=>Goes.brk hk (fun hk=>Goes.leaf) (fun hk=>Goes.brk hk (fun hk=>Goes.leaf) (fun hk=>Goes.nok hk))) (fun hk=>Goes.brk hk (fun hk=>Goes.leaf) (fun hk=>Goes.nok hk))) (fun hk=>Goes.nok hk)
def Zkz:Bool→AV:=fun (r:Bool)=>.d .bool r
def Zex (i:El Za):Empty→Nat×St:=fun j=>nomatch j
theorem ZyN (i:El Za) (L:Lt):entryA Go.Proofs.Tryz.prog (clOf Zoo) ZlC Go.Proofs.Tryz.f72 ZkO L (toForms ZeL (i,()))=(Zq2 i).run (fun v=>some (Zkz v,tps (toForms ZeL (i,())))) fun j=>L (Zex i j).1 (Zex i j).2:=by kernel_rfl
theorem Zxv (i:El Za):∀(L:Lt) (j:Empty),procOf (procsF Go.Proofs.Tryz.prog (clOf Zoo) ZlC Go.Proofs.Tryz.f72 ZkO (toForms ZeL (i,()))) (Zex i j).1 L (Zex i j).2=(ZsY i j).run (fun v=>some (Zkz v,tps (toForms ZeL (i,())))) fun j=>L (Zex i j).1 (Zex i j).2:=fun L j=>nomatch j
noncomputable def ZsO:Run:=entG ZeL Zkz (fun a=>ZfR a.1) (fun a=>Zhp a.1)
theorem ZyO:EntOK Go.Proofs.Tryz.prog 72 ZsO:=Zao (tb:=ZlC) (c:=ZkO) Zzc (by kernel_rfl) (by kernel_rfl) (by kernel_rfl) (fun a=>by kernel_rfl) fun ⟨i,_⟩ hk=>Zp (c:=ZkO) (K:=fun v=>(Zkz v,tps (toForms ZeL (i,())))) (S:=Zex i) (by kernel_rfl) (ZyN i) (Zxv i) (ZAt i hk)
end
end Go.Ev
end

section
open Go Go.Ev
namespace Go.Ev
noncomputable section
def ZeT:Sig:=[(true,(.sl Za)),(false,(.sl (.int .i64))),(false,(.int .i64))]
noncomputable def ZnU:Tbl:=[(14,Zhm),(16,ZbJ),(33,Zos),(17,ZdV),(72,ZsO),(34,Zfl)]
theorem ZxU:∀p∈ZnU,EntOK Go.Proofs.Tryz.prog p.1 p.2:=Zi ZhM (Zi Zbj (Zi ZqG (Zi Zdg (Zi ZyO (Zi Zgw (Zu))))))
noncomputable def Zj8:Code:=Go.Proofs.Tryz.f55.body.getD .skip
def Zmk:Tb:=[(4,⟨[2,3,7,8,23,24,25],[]⟩),(11,⟨[3,7,8,11],[(1000000000000000000000000000000000000000000000000000000000012,1)]⟩),(17,⟨[3,7,8,11,51,52,53],[(1000000000000000000000000000000000000000000000000000000000012,1)]⟩)]
inductive Zh3 where | l4 (h:Int) (closed:Int) (closed1:List (Int×Int)) | l11 (closed:Int) (closed1:List (Int×Int)) (len:Nat) (seen:Int) (open_:List Int) (seen1:List (Int×Int)) | l17 (closed:Int) (closed1:List (Int×Int)) (len:Nat) (h:Int) (seen:Int) (open_:List Int) (seen1:List (Int×Int)) (h1:Int) (h2:List Int)
def Za4 (t:List (El Za)) (points:List Int) (s:Int):Zh3→JT Zh3 (List Int) |.l4 h closed closed1=>.br (decide (h < (Int.ofNat (List.length points)))) (.br ((decide ((0:Int)≤h))&&(decide (h < (Int.ofNat (List.length points))))) (.jmp (.l4 (IntKind.i64.wrap (h+(1:Int))) (Zl (closed,closed1) (List.getD points (Int.toNat h) (dflt (.int .i64)))).2.1 (Zl (closed,closed1) (List.getD points (Int.toNat h) (dflt (.int .i64)))).2.2)) (.no)) (.jmp (.l11 closed closed1 1 (Zq (Int.ofNat (List.length t))).1 [s] (Zq (Int.ofNat (List.length t))).2)) |.l11 closed closed1 len seen open_ seen1=>.br (decide ((Int.ofNat len) > (0:Int))) (.br ((decide ((0:Int)≤(IntKind.i64.wrap ((Int.ofNat len) - (1:Int)))))&&(decide ((IntKind.i64.wrap ((Int.ofNat len) - (1:Int))) < (Int.ofNat len)))) (.br ((decide ((0:Int)≤(IntKind.i64.wrap ((Int.ofNat len) - (1:Int)))))&&(decide ((IntKind.i64.wrap ((Int.ofNat len) - (1:Int)))≤(Int.ofNat len)))) (.br (Zdp t (List.getD open_ (Int.toNat (IntKind.i64.wrap ((Int.ofNat len) - (1:Int)))) (dflt (.int .i64)))) (.jmp (.l17 closed closed1 (Int.toNat (IntKind.i64.wrap ((Int.ofNat len) - (1:Int)))) (0:Int) seen open_ seen1 (Int.ofNat (List.length (ZP t (List.getD open_ (Int.toNat (IntKind.i64.wrap ((Int.ofNat len) - (1:Int)))) (dflt (.int .i64)))))) (ZP t (List.getD open_ (Int.toNat (IntKind.i64.wrap ((Int.ofNat len) - (1:Int)))) (dflt (.int .i64)))))) (.no)) (.no)) (.no)) (.br (ZaH (seen,seen1)) (.leaf (ZaY (seen,seen1)).1) (.no)) |.l17 closed closed1 len h seen open_ seen1 h1 h2=>.br (decide (h < h1)) (.br ((decide ((0:Int)≤h))&&(decide (h < (Int.ofNat (List.length h2))))) (.br (! (Zk (closed,closed1) (List.getD h2 (Int.toNat h) (dflt (.int .i64)))).1) (.br (Zl (seen,seen1) (List.getD h2 (Int.toNat h) (dflt (.int .i64)))).1 (.br ((decide ((0:Int)≤(List.getD h2 (Int.toNat h) (dflt (.int .i64)))))&&(decide ((List.getD h2 (Int.toNat h) (dflt (.int .i64))) < (Int.ofNat (List.length t))))) (.br (ZfR (List.getD t (Int.toNat (List.getD h2 (Int.toNat h) (dflt (.int .i64)))) (dflt Za))) (.br (! (Zhp (List.getD t (Int.toNat (List.getD h2 (Int.toNat h) (dflt (.int .i64)))) (dflt Za)))) (.br (Nat.ble (((List.length (List.take len open_))+1)*8) limit) (.jmp (.l17 (Zk (closed,closed1) (List.getD h2 (Int.toNat h) (dflt (.int .i64)))).2.1 (Zk (closed,closed1) (List.getD h2 (Int.toNat h) (dflt (.int .i64)))).2.2 (List.length ((List.take len open_)++[(List.getD h2 (Int.toNat h) (dflt (.int .i64)))])) (IntKind.i64.wrap (h+(1:Int))) (Zl (seen,seen1) (List.getD h2 (Int.toNat h) (dflt (.int .i64)))).2.1 ((List.take len open_)++[(List.getD h2 (Int.toNat h) (dflt (.int .i64)))]) (Zl (seen,seen1) (List.getD h2 (Int.toNat h) (dflt (.int .i64)))).2.2 h1 h2)) (.no)) (.jmp (.l17 (Zk (closed,closed1) (List.getD h2 (Int.toNat h) (dflt (.int .i64)))).2.1 (Zk (closed,closed1) (List.getD h2 (Int.toNat h) (dflt (.int .i64)))).2.2 len (IntKind.i64.wrap (h+(1:Int))) (Zl (seen,seen1) (List.getD h2 (Int.toNat h) (dflt (.int .i64)))).2.1 open_ (Zl (seen,seen1) (List.getD h2 (Int.toNat h) (dflt (.int .i64)))).2.2 h1 h2))) (.no)) (.no)) (.jmp (.l17 (Zk (closed,closed1) (List.getD h2 (Int.toNat h) (dflt (.int .i64)))).2.1 (Zk (closed,closed1) (List.getD h2 (Int.toNat h) (dflt (.int .i64)))).2.2 len (IntKind.i64.wrap (h+(1:Int))) (Zl (seen,seen1) (List.getD h2 (Int.toNat h) (dflt (.int .i64)))).2.1 open_ (Zl (seen,seen1) (List.getD h2 (Int.toNat h) (dflt (.int .i64)))).2.2 h1 h2))) (.jmp (.l17 (Zk (closed,closed1) (List.getD h2 (Int.toNat h) (dflt (.int .i64)))).2.1 (Zk (closed,closed1) (List.getD h2 (Int.toNat h) (dflt (.int .i64)))).2.2 len (IntKind.i64.wrap (h+(1:Int))) seen open_ seen1 h1 h2))) (.no)) (.jmp (.l11 closed closed1 len seen open_ seen1))
def ZlO (t:List (El Za)) (points:List Int) (s:Int):JT Zh3 (List Int):=.jmp (.l4 (0:Int) (Zq (Int.ofNat (List.length t))).1 (Zq (Int.ofNat (List.length t))).2)
def Zks:List Int→AV:=fun (r:List Int)=>.rw 3 (.int .i64) r
def ZeB (t:List (El Za)) (points:List Int) (s:Int):Zh3→Nat×St |.l4 h closed closed1=>(4,⟨mkTm 82 [(2,.d (.int .i64) s),(3,.pt 4 0 0),(7,.pt 8 0 0),(8,.pt 9 0 0),(23,.d (.sl (.int .i64)) points),(24,.d (.int .i64) (Int.ofNat (List.length points))),(25,.d (.int .i64) h)],[(4,0,.box 31 [.d (.sl Za) t] none),(8,0,.box 78 [.d (.int .i64) closed,.mp 8194 0] none),(9,0,.box 78 [.d (.int .i64) (Zq (Int.ofNat (List.length t))).1,.mp 9218 0] none),(8194,0,.map (.int .i64) (.int .u64) closed1),(9218,0,.map (.int .i64) (.int .u64) (Zq (Int.ofNat (List.length t))).2)]⟩) |.l11 closed closed1 len seen open_ seen1=>(11,⟨mkTm 82 [(3,.pt 4 0 0),(7,.pt 8 0 0),(8,.pt 9 0 0),(11,.own 12 0 (some len))],[(4,0,.box 31 [.d (.sl Za) t] none),(8,0,.box 78 [.d (.int .i64) closed,.mp 8194 0] none),(9,0,.box 78 [.d (.int .i64) seen,.mp 9218 0] none),(12,0,.row 3 (.int .i64) open_ false),(8194,0,.map (.int .i64) (.int .u64) closed1),(9218,0,.map (.int .i64) (.int .u64) seen1)]⟩) |.l17 closed closed1 len h seen open_ seen1 h1 h2=>(17,⟨mkTm 82 [(3,.pt 4 0 0),(7,.pt 8 0 0),(8,.pt 9 0 0),(11,.own 12 0 (some len)),(51,.own 52 0 none),(52,.d (.int .i64) h1),(53,.d (.int .i64) h)],[(4,0,.box 31 [.d (.sl Za) t] none),(8,0,.box 78 [.d (.int .i64) closed,.mp 8194 0] none),(9,0,.box 78 [.d (.int .i64) seen,.mp 9218 0] none),(12,0,.row 3 (.int .i64) open_ false),(52,0,.row 3 (.int .i64) h2 false),(8194,0,.map (.int .i64) (.int .u64) closed1),(9218,0,.map (.int .i64) (.int .u64) seen1)]⟩)
theorem Zye (t:List (El Za)) (points:List Int) (s:Int) (L:Lt):entryA Go.Proofs.Tryz.prog (clOf ZnU) Zmk Go.Proofs.Tryz.f55 Zj8 L (toForms ZeT (t,points,s,()))=(ZlO t points s).run (fun v=>some (Zks v,tps (toForms ZeT (t,points,s,())))) fun j=>L (ZeB t points s j).1 (ZeB t points s j).2:=by kernel_rfl
theorem Zzb (t:List (El Za)) (points:List Int) (s:Int):∀(L:Lt) (j:Zh3),procOf (procsF Go.Proofs.Tryz.prog (clOf ZnU) Zmk Go.Proofs.Tryz.f55 Zj8 (toForms ZeT (t,points,s,()))) (ZeB t points s j).1 L (ZeB t points s j).2=(Za4 t points s j).run (fun v=>some (Zks v,tps (toForms ZeT (t,points,s,())))) fun j=>L (ZeB t points s j).1 (ZeB t points s j).2 | L,.l4 h closed closed1=>by kernel_rfl | L,.l11 closed closed1 len seen open_ seen1=>by kernel_rfl | L,.l17 closed closed1 len h seen open_ seen1 h1 h2=>by kernel_rfl
end
end Go.Ev
end

section
open Go
namespace Go.Ev
theorem ZEO {i:El Za} (h:smallText i.2.2.2.2.2.1=true):ZfR i=true:=by
 have h0:ZM i=true:=h
 have a:ZaD i=true:=by unfold ZaD;simp only[h0,cond_true,Bool.cond_self]
 unfold ZfR
 simp only[h0,a,cond_true,Bool.cond_self]
end Go.Ev
end

section
open Go
namespace Go.Ev
def fenceAtT (t:List (El Za)) (k:Nat):Bool:=Zhp (t.getD k (dflt Za))
def stepB (t:List (El Za)) (points:List Int) (k j:Nat):Bool:=!fenceAtT t k&&(nextB t (k:Int) j&& !points.contains (j:Int))
def firstB (t:List (El Za)) (points:List Int) (s:Int) (j:Nat):Bool:=nextB t s j&& !points.contains (j:Int)
noncomputable def endsB (t:List (El Za)) (points:List Int) (s:Int) (j:Nat):Bool:=comeB (stepB t points) (firstB t points s) j
theorem ZEa {t:List (El Za)} {points:List Int} {k j:Nat} (h:stepB t points k j=true):j < t.length:=by
 unfold stepB at h
 simp only[Bool.and_eq_true] at h
 exact Zfe h.2.1
theorem ZDb {t:List (El Za)} {points:List Int} {s:Int} {j:Nat} (h:firstB t points s j=true):j < t.length:=by
 unfold firstB at h
 simp only[Bool.and_eq_true] at h
 exact Zfe h.1
end Go.Ev
end

section
open Go
namespace Go.Ev
noncomputable def Z2 (t:List (El Za)) (points:List Int) (s:Int):List Int:=listOf t.length (endsB t points s)
def Zb4 (t:List (El Za)) (points:List Int) (s:Int):Bool:=flowOK t&&decide (points.length < 4611686018427387904)
def goB (t:List (El Za)) (points:List Int) (x:Int) (j:Nat):Bool:=nextB t x j&& !points.contains (j:Int)
def nodeP (t:List (El Za)) (s:Int) (M:Nat→Bool) (x:Int):Prop:=x=s∨∃j:Nat,x=(j:Int)∧M j=true∧fenceAtT t j=false
theorem ZB3 {l:List Int} {n:Nat} (h:n+1≤l.length):l.take (n+1)=l.take n++[l.getD n 0]:=by
 have hn:n < l.length:=by omega
 rw[List.take_succ_eq_append_getElem hn,Z4 hn]
theorem ZzT (t:List (El Za)) (points:List Int) (s:Int) (hk:Zb4 t points s=true):Goes (Za4 t points s) (ZlO t points s) (Z2 t points s):=by
 unfold Zb4 at hk
 rw[Bool.and_eq_true] at hk
 obtain ⟨hf,hpl⟩:=hk
 have hpl:=of_decide_eq_true hpl
 have hlen:=ZeF hf
 generalize hn:t.length=n at hlen
 have kfe:∀k,k < n→ZfR (List.getD t k (dflt Za))=true:=fun k hk=>by
  have hmem:t.getD k (dflt Za)∈t:=by rw[Z4 (by omega)];exact List.getElem_mem (by omega)
  exact ZEO (Zry hf hmem)
 have main:∀(C:Nat→Bool) (cl:Int×List (Int×Int)),SetOK cl n C→(∀j,j < n→C j=points.contains (j:Int))→∀m,∀(M:Nat→Bool) (se:Int×List (Int×Int)) (open_:List Int) (len:Nat),len≤open_.length→2*(n - card n M)+len=m→SetOK se n M→
   (∀j,M j=true→Come (stepB t points) (firstB t points s) j)→(∀x∈open_.take len,nodeP t s M x)→(∀x,nodeP t s M x→x∈open_.take len∨∀j,goB t points x j=true→M j=true)→len≤card n M+1→
   Goes (Za4 t points s) (.jmp (.l11 cl.1 cl.2 len se.1 open_ se.2)) (Z2 t points s):=by
  intro C cl hcl hC m
  induction m using Nat.strongRecOn with
  | _ m ih=>
  intro M se open_ len hl hm hs h1 h2 h3 h5
  cases len with
  | zero=>
   rw[Zn,Za4,Zf,if_neg (by decide)]
   have hkl:ZaH (se.1,se.2)=true:=Nat.ble_eq_true_of_le (by have:=hs.few;unfold limit;show se.2.length*512≤_;omega)
   rw[Zf,if_pos hkl]
   have hv:(ZaY (se.1,se.2)).1=Z2 t points s:=by
    show listS se=_
    rw[hs.list (by omega)]
    unfold Z2 endsB
    rw[hn]
    refine ZlP fun j _=>Zrm (fun j hj=>?_) (fun k j hk hj=>?_) h1 j
    ·rcases h3 s (.inl rfl) with h | h
     ·simp at h
     ·exact h j hj
    ·unfold stepB at hj
     rw[Bool.and_eq_true] at hj
     rcases h3 (k:Int) (.inr ⟨k,rfl,hk,by simpa using hj.1⟩) with h | h
     ·simp at h
     ·exact h j hj.2
   rw[hv];exact .leaf
  | succ len=>
   have hc:= @Zfa n M
   have e:IntKind.i64.wrap (Int.ofNat (len+1) - 1)=(len:Int):=by
    rw[wrap_i64 (by simp <;> omega) (by simp <;> omega)];simp
   have g1:decide (Int.ofNat (len+1) > (0:Int))=true:=decide_eq_true (by simp <;> omega)
   have g2:(decide ((0:Int)≤(len:Int))&&decide ((len:Int) < Int.ofNat (len+1)))=true:=ZaP (by omega)
   have g3:(decide ((0:Int)≤(len:Int))&&decide ((len:Int)≤Int.ofNat (len+1)))=true:=by simp;omega
   rw[Zn,Za4,e,Zf,if_pos g1,Zf,if_pos g2,Zf,if_pos g3,Int.toNat_natCast]
   have htk:=ZB3 hl
   generalize hx0:open_.getD len 0=x0 at htk
   have hd:open_.getD len (dflt (.int .i64))=x0:=hx0
   rw[hd]
   have kn:Zdp t x0=true:=hf
   rw[Zf,if_pos kn]
   have hnode:=h2 x0 (by rw[htk];simp)
   generalize hr:ZP t x0=r
   have hrm:∀y∈r,∃j:Nat,j < n∧nextB t x0 j=true∧y=(j:Int):=fun y hy=>by
    rw[←hr] at hy
    unfold ZP at hy
    rw[hn] at hy
    exact Zbq.1 hy
   have hrl:r.length≤n:=by rw[←hr];unfold ZP;rw[Zfr,hn];exact Zfa
   have hin:∀j:Nat,nextB t x0 j=true→(j:Int)∈r:=fun j hj=>by rw[←hr];exact Zbq.2 ⟨j,Zfe hj,hj,rfl⟩
   have inner:∀h,h≤r.length→∀(M1:Nat→Bool) (se1:Int×List (Int×Int)) (op1:List Int) (len1:Nat),len1≤op1.length→2*(n - card n M1)+len1 < m→SetOK se1 n M1→nodeP t s M1 x0→
     (∀j,M1 j=true→Come (stepB t points) (firstB t points s) j)→(∀x∈op1.take len1,nodeP t s M1 x)→(∀x,nodeP t s M1 x→x∈op1.take len1∨∀j,goB t points x j=true→M1 j=true∨(x=x0∧(j:Int)∈r.drop h))→len1≤card n M1+1→
     Goes (Za4 t points s) (.jmp (.l17 cl.1 cl.2 len1 (h:Int) se1.1 op1 se1.2 (Int.ofNat r.length) r)) (Z2 t points s):=by
    refine down ?_ fun h hh ih2=>?_
    ·intro M1 se1 op1 len1 i1 i2 i3 i4 i5 i6 i7 i8
     rw[Zn,Za4,Zf,if_neg (by rw[ZW (Nat.lt_irrefl _)];decide)]
     refine ih _ i2 M1 se1 op1 len1 i1 rfl i3 i5 i6 (fun x hx=>(i7 x hx).imp id fun h j hj=>(h j hj).resolve_right (by simp)) i8
    ·intro M1 se1 op1 len1 i1 i2 i3 i4 i5 i6 i7 i8
     obtain ⟨y,hy,hyN,hxy⟩:=hrm r[h] (List.getElem_mem hh)
     have hdy:List.getD r h (dflt (.int .i64))=(y:Int):=by rw[←hxy];exact Z4 hh
     have hhas:(Zk (cl.1,cl.2) (y:Int)).1=points.contains (y:Int):=by
      show hasS cl (y:Int)=_
      rw[hcl.has (by omega),Int.toNat_natCast,decide_eq_true (by omega),Bool.true_and,hC y hy]
     have hhas2:(Zk (cl.1,cl.2) (y:Int)).2=cl:=rfl
     have hput:Zl (se1.1,se1.2) (y:Int)=putS se1 (y:Int):=rfl
     have hdr:∀z,z∈r.drop h↔z=(y:Int)∨z∈r.drop (h+1):=fun z=>by rw[Z3 hh,List.mem_cons,hxy]
     rw[Zn,Za4,Zf,if_pos (ZaK hh),Zf,if_pos (ZaP hh),Zf,Int.toNat_natCast,hdy,hhas,hhas2,hput,Zz (by omega)]
     have skip:(goB t points x0 y=true→M1 y=true)→Goes (Za4 t points s) (.jmp (.l17 cl.1 cl.2 len1 ((h+1:Nat):Int) se1.1 op1 se1.2 (Int.ofNat r.length) r)) (Z2 t points s):=fun hsk=>
      ih2 M1 se1 op1 len1 i1 i2 i3 i4 i5 i6 (fun x hx=>(i7 x hx).imp id fun hg j hj=>by
       rcases hg j hj with h | ⟨hx0,h⟩
       ·exact .inl h
       ·rcases (hdr _).1 h with h | h
        ·have:j=y:=by omega
         subst this
         rw[hx0] at hj
         exact .inl (hsk hj)
        ·exact .inr ⟨hx0,h⟩) i8
     cases hpt:points.contains (y:Int) with
     | true=>
      rw[if_neg (by decide)]
      exact skip fun h=>by unfold goB at h;rw[hpt,Bool.not_true,Bool.and_false] at h;cases h
     | false=>
      rw[if_pos (by decide),Zf]
      cases hMy:M1 y with
      | true=>
       have hno:=i3.put_no (by omega) (i:=(y:Int)) (fun h=>by rw[Int.toNat_natCast,hMy] at h;cases h.2.2)
       rw[hno,if_neg (by simp)]
       exact skip fun _=>hMy
      | false=>
       obtain ⟨p1,p2⟩:=i3.put (by omega) hy hMy
       have hgo:goB t points x0 y=true:=by unfold goB;rw[hyN,hpt];rfl
       have hcome:Come (stepB t points) (firstB t points s) y:=by
        rcases i4 with h | ⟨k,hk,hMk,hfk⟩
        ·subst h;exact .start hgo
        ·subst hk;exact .step (i5 k hMk) (by unfold stepB;rw[hfk];exact hgo)
       have hcard:=ZpJ hMy hy
       have hcl2:= @Zfa n (fun k=>M1 k || (k==y))
       have mono:∀x,nodeP t s M1 x→nodeP t s (fun k=>M1 k || (k==y)) x:=fun x hx=>hx.imp id fun ⟨k,h1,h2,h3⟩=>⟨k,h1,by show (M1 k || (k==y))=true;rw[h2];rfl,h3⟩
       have hcc:∀k,(M1 k || (k==y))=true→Come (stepB t points) (firstB t points s) k:=fun k hk=>by
        simp only[Bool.or_eq_true,beq_iff_eq] at hk
        rcases hk with hk | hk
        ·exact i5 k hk
        ·subst hk;exact hcome
       have keep:∀(o:List Int),(∀x∈op1.take len1,x∈o)→(fenceAtT t y=false→(y:Int)∈o)→∀x,nodeP t s (fun k=>M1 k || (k==y)) x→x∈o∨∀j,goB t points x j=true→(M1 j || (j==y))=true∨(x=x0∧(j:Int)∈r.drop (h+1)):=fun o ho hyo x hx=>by
        have old:nodeP t s M1 x→x∈o∨∀j,goB t points x j=true→(M1 j || (j==y))=true∨(x=x0∧(j:Int)∈r.drop (h+1)):=fun hx=>by
         rcases i7 x hx with h | h
         ·exact .inl (ho x h)
         ·refine .inr fun j hj=>?_
          rcases h j hj with h | ⟨hx0,h⟩
          ·exact .inl (by rw[h];rfl)
          ·rcases (hdr _).1 h with h | h
           ·have:j=y:=by omega
            subst this;exact .inl (by simp)
           ·exact .inr ⟨hx0,h⟩
        rcases hx with hx | ⟨k,hk,hMk,hfk⟩
        ·exact old (.inl hx)
        ·have hMk:(M1 k || (k==y))=true:=hMk
         simp only[Bool.or_eq_true,beq_iff_eq] at hMk
         rcases hMk with hMk | hMk
         ·exact old (.inr ⟨k,hk,hMk,hfk⟩)
         ·subst hMk;subst hk;exact .inl (hyo hfk)
       have vf:Zhp (List.getD t y (dflt Za))=fenceAtT t y:=rfl
       rw[p1,if_pos rfl,Zf,hn,if_pos (ZaP hy),Zf,Int.toNat_natCast,if_pos (kfe y hy),Zf,vf]
       cases hfy:fenceAtT t y with
       | true=>
        rw[if_neg (by decide)]
        exact ih2 _ _ op1 len1 i1 (by omega) p2 (mono x0 i4) hcc (fun x hx=>mono x (i6 x hx)) (keep _ (fun x hx=>hx) (fun h=>by rw[hfy] at h;cases h)) (by omega)
       | false=>
        have htl:(op1.take len1).length=len1:=by rw[List.length_take];omega
        rw[if_pos (by decide),Zf,if_pos (Nat.ble_eq_true_of_le (by rw[htl];unfold limit;omega))]
        have htake:(op1.take len1++[(y:Int)]).take (op1.take len1++[(y:Int)]).length=op1.take len1++[(y:Int)]:=List.take_length
        have hl2:(op1.take len1++[(y:Int)]).length=len1+1:=by rw[List.length_append,htl];rfl
        refine ih2 _ _ (op1.take len1++[(y:Int)]) _ (Nat.le_refl _) (by omega) p2 (mono x0 i4) hcc (fun x hx=>?_) ?_ (by omega)
        ·rw[htake,List.mem_append] at hx
         rcases hx with hx | hx
         ·exact mono x (i6 x hx)
         ·simp only[List.mem_singleton] at hx
          exact .inr ⟨y,hx,by simp,hfy⟩
        ·rw[htake]
         exact keep _ (fun x hx=>List.mem_append_left _ hx) (fun _=>List.mem_append_right _ (by simp))
   refine inner 0 (Nat.zero_le _) M se open_ len (by omega) (by omega) hs hnode h1 (fun x hx=>h2 x (by rw[htk];simp[hx])) (fun x hx=>?_) (by omega)
   rcases h3 x hx with h | h
   ·rw[htk,List.mem_append] at h
    rcases h with h | h
    ·exact .inl h
    ·simp only[List.mem_singleton] at h
     refine .inr fun j hj=>.inr ⟨h,?_⟩
     subst h
     unfold goB at hj
     rw[Bool.and_eq_true] at hj
     rw[List.drop_zero]
     exact hin j hj.1
   ·exact .inr fun j hj=>.inl (h j hj)
 have hnew:Zq (Int.ofNat (List.length t))=((n:Int),[]):=by
  rw[hn]
  unfold Zq
  simp
  omega
 have first:∀h,h≤points.length→∀(C:Nat→Bool) (cl:Int×List (Int×Int)),SetOK cl n C→(∀j:Nat,j < n→((C j=true∨(j:Int)∈points.drop h)↔(j:Int)∈points))→Goes (Za4 t points s) (.jmp (.l4 (h:Int) cl.1 cl.2)) (Z2 t points s):=by
  refine down ?_ fun h hh ih=>?_
  ·intro C cl hcl hC
   rw[Zn,Za4,Zf,if_neg (by rw[ZW (Nat.lt_irrefl _)];decide),hnew]
   refine main C cl hcl (fun j hj=>?_) _ (fun _=>false) ((n:Int),[]) [s] 1 (by simp) rfl (SetOK.new n) (fun j h=>by cases h) (fun x hx=>.inl (by simpa using hx)) (fun x hx=>.inl ?_) (by omega)
   ·have:=hC j hj
    rw[List.drop_length] at this
    rw[Bool.eq_iff_iff,List.contains_iff_mem,←this]
    simp
   ·rcases hx with hx | ⟨j,_,h,_⟩
    ·simpa using hx
    ·cases h
  ·intro C cl hcl hC
   rw[Zn,Za4,Zf,if_pos (ZaK hh),Zf,if_pos (ZaP hh),Int.toNat_natCast,Zz (by omega)]
   have hd:points.getD h (dflt (.int .i64))=points[h]:=Z4 hh
   rw[hd]
   have hput:Zl (cl.1,cl.2) points[h]=putS cl points[h]:=rfl
   rw[hput]
   have hdr:∀z,z∈points.drop h↔z=points[h]∨z∈points.drop (h+1):=fun z=>by rw[Z3 hh,List.mem_cons]
   generalize points[h]=x at hdr
   by_cases hx:0≤x∧x < n∧C x.toNat=false
   ·obtain ⟨y,rfl⟩:=Int.eq_ofNat_of_zero_le hx.1
    rw[Int.toNat_natCast] at hx
    obtain ⟨_,p2⟩:=hcl.put (by omega) (show y < n by omega) hx.2.2
    refine ih _ _ p2 fun j hj=>?_
    rw[←hC j hj,hdr]
    simp only[Bool.or_eq_true,beq_iff_eq]
    constructor
    ·rintro ((h | h) | h)
     ·exact .inl h
     ·exact .inr (.inl (by omega))
     ·exact .inr (.inr h)
    ·rintro (h | h | h)
     ·exact .inl (.inl h)
     ·exact .inl (.inr (by omega))
     ·exact .inr h
   ·rw[hcl.put_no (by omega) hx]
    refine ih C cl hcl fun j hj=>?_
    rw[←hC j hj,hdr]
    constructor
    ·rintro (h | h)
     ·exact .inl h
     ·exact .inr (.inr h)
    ·rintro (h | h | h)
     ·exact .inl h
     ·left
      cases hCj:C j with
      | true=>rfl
      | false=>exact absurd ⟨by omega,by omega,by rw[←h,Int.toNat_natCast];exact hCj⟩ hx
     ·exact .inr h
 unfold ZlO
 rw[hnew]
 exact first 0 (Nat.zero_le _) (fun _=>false) ((n:Int),[]) (SetOK.new n) fun j _=>by simp
end Go.Ev
end

section
open Go Go.Ev
namespace Go.Ev
noncomputable section
noncomputable def Zr4:Run:=entG ZeT Zks (fun a=>Zb4 a.1 a.2.1 a.2.2.1) (fun a=>Z2 a.1 a.2.1 a.2.2.1)
theorem ZxE:EntOK Go.Proofs.Tryz.prog 55 Zr4:=Zao (tb:=Zmk) (c:=Zj8) ZxU (by kernel_rfl) (by kernel_rfl) (by kernel_rfl) (fun a=>by kernel_rfl) fun ⟨t,points,s,_⟩ hk=>Zp (c:=Zj8) (K:=fun v=>(Zks v,tps (toForms ZeT (t,points,s,())))) (S:=ZeB t points s) (by kernel_rfl) (Zye t points s) (Zzb t points s) (ZzT t points s hk)
end
end Go.Ev
end

section
open Go Go.Ev
namespace Go.Ev
noncomputable section
def Zab:Sig:=[(false,(.sl (.int .i64))),(false,(.int .i64))]
noncomputable def ZbR:Tbl:=[]
theorem Zia:∀p∈ZbR,EntOK Go.Proofs.Tryz.prog p.1 p.2:=Zu
noncomputable def ZaU:Code:=Go.Proofs.Tryz.f71.body.getD .skip
def Zbm:Tb:=[(3,⟨[0,1,7,8],[]⟩)]
inductive Zav where | l3 (h:Int)
def Zaw (s:List Int) (v_:Int):Zav→JT Zav (Int) |.l3 h=>.br (decide (h < (Int.ofNat (List.length s)))) (.br ((decide ((0:Int)≤h))&&(decide (h < (Int.ofNat (List.length s))))) (.br (v_==(List.getD s (Int.toNat h) (dflt (.int .i64)))) (.leaf h) (.jmp (.l3 (IntKind.i64.wrap (h+(1:Int)))))) (.no)) (.leaf (-1:Int))
def ZdS (s:List Int) (v_:Int):JT Zav (Int):=.jmp (.l3 (0:Int))
def ZaV:Int→AV:=fun (r:Int)=>.d (.int .i64) r
def Z1 (s:List Int) (v_:Int):Zav→Nat×St |.l3 h=>(3,⟨mkTm 19 [(0,.d (.sl (.int .i64)) s),(1,.d (.int .i64) v_),(7,.d (.int .i64) (Int.ofNat (List.length s))),(8,.d (.int .i64) h)],[]⟩)
theorem Zic (s:List Int) (v_:Int) (L:Lt):entryA Go.Proofs.Tryz.prog (clOf ZbR) Zbm Go.Proofs.Tryz.f71 ZaU L (toForms Zab (s,v_,()))=(ZdS s v_).run (fun v=>some (ZaV v,tps (toForms Zab (s,v_,())))) fun j=>L (Z1 s v_ j).1 (Z1 s v_ j).2:=by kernel_rfl
theorem Zib (s:List Int) (v_:Int):∀(L:Lt) (j:Zav),procOf (procsF Go.Proofs.Tryz.prog (clOf ZbR) Zbm Go.Proofs.Tryz.f71 ZaU (toForms Zab (s,v_,()))) (Z1 s v_ j).1 L (Z1 s v_ j).2=(Zaw s v_ j).run (fun v=>some (ZaV v,tps (toForms Zab (s,v_,())))) fun j=>L (Z1 s v_ j).1 (Z1 s v_ j).2 | L,.l3 h=>by kernel_rfl
end
end Go.Ev
end

section
open Go
namespace Go.Ev
def indexI (v:Int):List Int→Nat→Int
 | [],_=> -1
 | x :: r,k=>if v=x then (k:Int) else indexI v r (k+1)
theorem ZxP {v:Int} :∀ {l:List Int} {k:Nat},decide (indexI v l k≥0)=l.contains v
 | [],k=>rfl
 | x :: r,k=>by
  unfold indexI
  rw[List.contains_cons]
  by_cases h:v=x
  ·subst h;rw[if_pos rfl];simp
  ·rw[if_neg h,ZxP]
   have:(v==x)=false:=by simpa using h
   rw[this,Bool.false_or]
def Zau (s:List Int) (v:Int):Int:=indexI v s 0
def Zac (s:List Int) (v:Int):Bool:=decide (s.length < 4611686018427387904)
theorem Zi9 (s:List Int) (v:Int) (hk:Zac s v=true):Goes (Zaw s v) (ZdS s v) (Zau s v):=by
 have hn:s.length < 4611686018427387904:=of_decide_eq_true hk
 have loop:∀k,k≤s.length→Goes (Zaw s v) (.jmp (.l3 (k:Int))) (indexI v (s.drop k) k):=by
  refine down ?_ fun k hk ih=>?_
  ·rw[Zn,Zaw,Zf,if_neg (by rw[ZW (Nat.lt_irrefl _)];decide),List.drop_length]
   exact .leaf
  ·have hd:s.getD k (dflt (.int .i64))=s[k]:=Z4 hk
   rw[Zn,Zaw,Zf,if_pos (ZaK hk),Zf,if_pos (ZaP hk),Zf,Int.toNat_natCast,hd,Z3 hk,indexI,Zz (by omega)]
   by_cases h:v=s[k]
   ·rw[if_pos h,if_pos (by simpa using h)];exact .leaf
   ·rw[if_neg h,if_neg (by simpa using h)];exact ih
 exact loop 0 (Nat.zero_le _)
end Go.Ev
end

section
open Go Go.Ev
namespace Go.Ev
noncomputable section
noncomputable def Zd2:Run:=entG Zab ZaV (fun a=>Zac a.1 a.2.1) (fun a=>Zau a.1 a.2.1)
theorem Zid:EntOK Go.Proofs.Tryz.prog 71 Zd2:=Zao (tb:=Zbm) (c:=ZaU) Zia (by kernel_rfl) (by kernel_rfl) (by kernel_rfl) (fun a=>by kernel_rfl) fun ⟨s,v_,_⟩ hk=>Zp (c:=ZaU) (K:=fun v=>(ZaV v,tps (toForms Zab (s,v_,())))) (S:=Z1 s v_) (by kernel_rfl) (Zic s v_) (Zib s v_) (Zi9 s v_ hk)
end
end Go.Ev
end

section
open Go Go.Ev
namespace Go.Ev
noncomputable section
def ZY:Sig:=[(false,(.sl (.int .i64))),(false,(.int .i64))]
noncomputable def Za8:Tbl:=[(71,Zd2)]
theorem ZgB:∀p∈Za8,EntOK Go.Proofs.Tryz.prog p.1 p.2:=Zi Zid (Zu)
noncomputable def ZaE:Code:=Go.Proofs.Tryz.f54.body.getD .skip
def Za6:Tb:=[]
def ZcS (s:List Int) (v_:Int):Empty→JT Empty (Bool):=fun j=>nomatch j
def Zct (s:List Int) (v_:Int):JT Empty (Bool):=.br (Zac s v_) (.leaf (decide ((Zau s v_)≥(0:Int)))) (.no)
def Zag (s:List Int) (v_:Int):Bool:=bif (Zac s v_) then (decide ((Zau s v_)≥(0:Int))) else false
def ZR (s:List Int) (v_:Int):Bool:=bif (Zac s v_) then true else false
theorem ZgW (s:List Int) (v_:Int) (hk:ZR s v_=true):Goes (ZcS s v_) (Zct s v_) (Zag s v_):=Goes.brk hk (fun hk=>Goes.leaf) (fun hk=>Goes.nok hk)
def ZaF:Bool→AV:=fun (r:Bool)=>.d .bool r
def ZQ (s:List Int) (v_:Int):Empty→Nat×St:=fun j=>nomatch j
theorem Zgs (s:List Int) (v_:Int) (L:Lt):entryA Go.Proofs.Tryz.prog (clOf Za8) Za6 Go.Proofs.Tryz.f54 ZaE L (toForms ZY (s,v_,()))=(Zct s v_).run (fun v=>some (ZaF v,tps (toForms ZY (s,v_,())))) fun j=>L (ZQ s v_ j).1 (ZQ s v_ j).2:=by kernel_rfl
theorem Zgr (s:List Int) (v_:Int):∀(L:Lt) (j:Empty),procOf (procsF Go.Proofs.Tryz.prog (clOf Za8) Za6 Go.Proofs.Tryz.f54 ZaE (toForms ZY (s,v_,()))) (ZQ s v_ j).1 L (ZQ s v_ j).2=(ZcS s v_ j).run (fun v=>some (ZaF v,tps (toForms ZY (s,v_,())))) fun j=>L (ZQ s v_ j).1 (ZQ s v_ j).2:=fun L j=>nomatch j
noncomputable def ZcR:Run:=entG ZY ZaF (fun a=>ZR a.1 a.2.1) (fun a=>Zag a.1 a.2.1)
theorem Zgu:EntOK Go.Proofs.Tryz.prog 54 ZcR:=Zao (tb:=Za6) (c:=ZaE) ZgB (by kernel_rfl) (by kernel_rfl) (by kernel_rfl) (fun a=>by kernel_rfl) fun ⟨s,v_,_⟩ hk=>Zp (c:=ZaE) (K:=fun v=>(ZaF v,tps (toForms ZY (s,v_,())))) (S:=ZQ s v_) (by kernel_rfl) (Zgs s v_) (Zgr s v_) (ZgW s v_ hk)
end
end Go.Ev
end

section
open Go Go.Ev
namespace Go.Ev
noncomputable section
def ZeY:Sig:=[(true,(.sl Za)),(false,(.sl (.int .i64))),(false,(.int .i64)),(false,(.int .i64))]
noncomputable def Zow:Tbl:=[(55,Zr4),(54,ZcR)]
theorem Zx7:∀p∈Zow,EntOK Go.Proofs.Tryz.prog p.1 p.2:=Zi ZxE (Zi Zgu (Zu))
noncomputable def ZkB:Code:=Go.Proofs.Tryz.f39.body.getD .skip
def Zmn:Tb:=[]
def ZrJ (t:List (El Za)) (points:List Int) (s:Int) (l:Int):Empty→JT Empty (Bool):=fun j=>nomatch j
def Zqr (t:List (El Za)) (points:List Int) (s:Int) (l:Int):JT Empty (Bool):=.br (Zb4 t points s) (.br (ZR (Z2 t points s) l) (.leaf (Zag (Z2 t points s) l)) (.no)) (.no)
def Zcg (t:List (El Za)) (points:List Int) (s:Int) (l:Int):Bool:=bif (Zb4 t points s) then bif (ZR (Z2 t points s) l) then (Zag (Z2 t points s) l) else false else false
def Zef (t:List (El Za)) (points:List Int) (s:Int) (l:Int):Bool:=bif (Zb4 t points s) then bif (ZR (Z2 t points s) l) then true else false else false
theorem ZzO (t:List (El Za)) (points:List Int) (s:Int) (l:Int) (hk:Zef t points s l=true):Goes (ZrJ t points s l) (Zqr t points s l) (Zcg t points s l):=Goes.brk hk (fun hk=>Goes.brk hk (fun hk=>Goes.leaf) (fun hk=>Goes.nok hk)) (fun hk=>Goes.nok hk)
def ZjY:Bool→AV:=fun (r:Bool)=>.d .bool r
def Zei (t:List (El Za)) (points:List Int) (s:Int) (l:Int):Empty→Nat×St:=fun j=>nomatch j
theorem Zxl (t:List (El Za)) (points:List Int) (s:Int) (l:Int) (L:Lt):entryA Go.Proofs.Tryz.prog (clOf Zow) Zmn Go.Proofs.Tryz.f39 ZkB L (toForms ZeY (t,points,s,l,()))=(Zqr t points s l).run (fun v=>some (ZjY v,tps (toForms ZeY (t,points,s,l,())))) fun j=>L (Zei t points s l j).1 (Zei t points s l j).2:=by kernel_rfl
theorem Zys (t:List (El Za)) (points:List Int) (s:Int) (l:Int):∀(L:Lt) (j:Empty),procOf (procsF Go.Proofs.Tryz.prog (clOf Zow) Zmn Go.Proofs.Tryz.f39 ZkB (toForms ZeY (t,points,s,l,()))) (Zei t points s l j).1 L (Zei t points s l j).2=(ZrJ t points s l j).run (fun v=>some (ZjY v,tps (toForms ZeY (t,points,s,l,())))) fun j=>L (Zei t points s l j).1 (Zei t points s l j).2:=fun L j=>nomatch j
noncomputable def ZrW:Run:=entG ZeY ZjY (fun a=>Zef a.1 a.2.1 a.2.2.1 a.2.2.2.1) (fun a=>Zcg a.1 a.2.1 a.2.2.1 a.2.2.2.1)
theorem ZxH:EntOK Go.Proofs.Tryz.prog 39 ZrW:=Zao (tb:=Zmn) (c:=ZkB) Zx7 (by kernel_rfl) (by kernel_rfl) (by kernel_rfl) (fun a=>by kernel_rfl) fun ⟨t,points,s,l,_⟩ hk=>Zp (c:=ZkB) (K:=fun v=>(ZjY v,tps (toForms ZeY (t,points,s,l,())))) (S:=Zei t points s l) (by kernel_rfl) (Zxl t points s l) (Zys t points s l) (ZzO t points s l hk)
end
end Go.Ev
end

section
open Go Go.Ev
namespace Go.Ev
noncomputable section
def ZdG:Sig:=[(true,Zc)]
noncomputable def ZmE:Tbl:=[(6,Zhk),(39,ZrW)]
theorem ZwV:∀p∈ZmE,EntOK Go.Proofs.Tryz.prog p.1 p.2:=Zi Zje (Zi ZxH (Zu))
noncomputable def Zil:Code:=Go.Proofs.Tryz.f21.body.getD .skip
def Zkh:Tb:=[(4,⟨[1,3,7,8,9],[(4,78)]⟩)]
inductive Zgg where | l4 (h:Int) (out:List (El Zg))
def Zgc (p:El Zc):Zgg→JT Zgg (List (El Zg)) |.l4 h out=>.br (decide (h < (Int.ofNat (List.length (Zo p))))) (.br ((decide ((0:Int)≤h))&&(decide (h < (Int.ofNat (List.length (Zo p)))))) (.br ((decide ((0:Int)≤(List.getD (Zo p) (Int.toNat h) (dflt Zg)).1))&&(decide ((List.getD (Zo p) (Int.toNat h) (dflt Zg)).1 < (Int.ofNat (List.length p.2))))) (.br (Zef (List.getD p.2 (Int.toNat (List.getD (Zo p) (Int.toNat h) (dflt Zg)).1) (dflt (.sl Za))) [] (List.getD (Zo p) (Int.toNat h) (dflt Zg)).2.1 (List.getD (Zo p) (Int.toNat h) (dflt Zg)).2.2) (.br (Zcg (List.getD p.2 (Int.toNat (List.getD (Zo p) (Int.toNat h) (dflt Zg)).1) (dflt (.sl Za))) [] (List.getD (Zo p) (Int.toNat h) (dflt Zg)).2.1 (List.getD (Zo p) (Int.toNat h) (dflt Zg)).2.2) (.br (Nat.ble (((List.length out)+1)*24) limit) (.jmp (.l4 (IntKind.i64.wrap (h+(1:Int))) (out++[(List.getD (Zo p) (Int.toNat h) (dflt Zg))]))) (.no)) (.jmp (.l4 (IntKind.i64.wrap (h+(1:Int))) out))) (.no)) (.no)) (.no)) (.leaf out)
def ZjT (p:El Zc):JT Zgg (List (El Zg)):=.br (ZH p) (.jmp (.l4 (0:Int) [])) (.no)
def ZiW:List (El Zg)→AV:=fun (r:List (El Zg))=>.rw 66 Zg r
def ZcY (p:El Zc):Zgg→Nat×St |.l4 h out=>(4,⟨mkTm 30 [(1,.pt 2 0 0),(3,.own 4 0 none),(7,.own 8 0 none),(8,.d (.int .i64) (Int.ofNat (List.length (Zo p)))),(9,.d (.int .i64) h)],[(2,0,.box 27 [.d (.sl ZJ) p.1,.d (.sl (.sl Za)) p.2] none),(4,0,.row 66 Zg out false),(8,0,.row 66 Zg (Zo p) false)]⟩)
theorem Zvp (p:El Zc) (L:Lt):entryA Go.Proofs.Tryz.prog (clOf ZmE) Zkh Go.Proofs.Tryz.f21 Zil L (toForms ZdG (p,()))=(ZjT p).run (fun v=>some (ZiW v,tps (toForms ZdG (p,())))) fun j=>L (ZcY p j).1 (ZcY p j).2:=by kernel_rfl
theorem Zvq (p:El Zc):∀(L:Lt) (j:Zgg),procOf (procsF Go.Proofs.Tryz.prog (clOf ZmE) Zkh Go.Proofs.Tryz.f21 Zil (toForms ZdG (p,()))) (ZcY p j).1 L (ZcY p j).2=(Zgc p j).run (fun v=>some (ZiW v,tps (toForms ZdG (p,())))) fun j=>L (ZcY p j).1 (ZcY p j).2 | L,.l4 h out=>by kernel_rfl
end
end Go.Ev
end

section
open Go
namespace Go.Ev
noncomputable def openB (p:El Zc) (x:El Zg):Bool:=Zcg (List.getD p.2 (Int.toNat x.1) (dflt (.sl Za))) [] x.2.1 x.2.2
noncomputable def openK (p:El Zc) (x:El Zg):Bool:=(decide ((0:Int)≤x.1)&&decide (x.1 < Int.ofNat (List.length p.2)))&&Zef (List.getD p.2 (Int.toNat x.1) (dflt (.sl Za))) [] x.2.1 x.2.2
noncomputable def Z6 (p:El Zc):List (El Zg):=(Zo p).filter (openB p)
noncomputable def Zby (p:El Zc):Bool:=ZH p&&(decide ((Zo p).length < 10000000000)&&(Zo p).all (openK p))
theorem Zzj (p:El Zc) (hk:Zby p=true):Goes (Zgc p) (ZjT p) (Z6 p):=by
 unfold Zby at hk
 rw[Bool.and_eq_true,Bool.and_eq_true] at hk
 obtain ⟨k1,k2,k3⟩:=hk
 have hN:=of_decide_eq_true k2
 unfold ZjT Z6
 rw[Zf,if_pos k1]
 obtain ⟨l,hl⟩:∃l,Zo p=l:=⟨_,rfl⟩
 rw[hl] at hN k3
 rw[hl]
 have loop:∀k,k≤l.length→∀out:List (El Zg),out.length≤k→Goes (Zgc p) (.jmp (.l4 (k:Int) out)) (out++(l.drop k).filter (openB p)):=by
  refine down ?_ fun k hk ih=>?_
  ·intro out ho
   rw[Zn,Zgc,hl,Zf,if_neg (by rw[ZW (Nat.lt_irrefl _)];decide),List.drop_length]
   simp only[List.filter_nil,List.append_nil]
   exact .leaf
  ·intro out ho
   have b1:Nat.ble ((out.length+1)*24) limit=true:=Nat.ble_eq_true_of_le (by unfold limit;omega)
   have hx:=List.all_eq_true.1 k3 l[k] (List.getElem_mem hk)
   unfold openK at hx
   rw[Bool.and_eq_true] at hx
   rw[Zn,Zgc,hl,Z3 hk,List.filter_cons]
   simp only[Zf,ZaK hk,nng,Bool.and_self,if_true,Int.toNat_natCast,Z4 hk,b1,Zz (k:=k) (by omega)]
   rw[if_pos hx.1,if_pos hx.2]
   by_cases c:openB p l[k]=true
   ·have c':=c
    unfold openB at c'
    rw[if_pos c',if_pos c]
    have:=ih (out++[l[k]]) (by simp;omega)
    rw[List.append_assoc] at this
    exact this
   ·have c':=c
    unfold openB at c'
    rw[if_neg c',if_neg c]
    exact ih out (by omega)
 have:=loop 0 (Nat.zero_le _) [] (Nat.zero_le _)
 rw[List.nil_append,List.drop_zero] at this
 exact this
end Go.Ev
end

section
open Go Go.Ev
namespace Go.Ev
noncomputable section
noncomputable def ZqX:Run:=entG ZdG ZiW (fun a=>Zby a.1) (fun a=>Z6 a.1)
theorem Zvu:EntOK Go.Proofs.Tryz.prog 21 ZqX:=Zao (tb:=Zkh) (c:=Zil) ZwV (by kernel_rfl) (by kernel_rfl) (by kernel_rfl) (fun a=>by kernel_rfl) fun ⟨p,_⟩ hk=>Zp (c:=Zil) (K:=fun v=>(ZiW v,tps (toForms ZdG (p,())))) (S:=ZcY p) (by kernel_rfl) (Zvp p) (Zvq p) (Zzj p hk)
end
end Go.Ev
end

section
open Go Go.Ev
namespace Go.Ev
noncomputable section
def ZcO:Sig:=[]
noncomputable def Zj2:Tbl:=[(19,ZqK),(6,Zhk),(20,Zlk),(21,ZqX)]
theorem ZtS:∀p∈Zj2,EntOK Go.Proofs.Tryz.prog p.1 p.2:=Zi Zv2 (Zi Zje (Zi ZpQ (Zi Zvu (Zu))))
noncomputable def Zg1:Code:=Go.Proofs.Tryz.f7.body.getD .skip
def Zjq:Tb:=[]
def ZoD:Empty→JT Empty (Bool):=fun j=>nomatch j
def ZnG:JT Empty (Bool):=.br (ZH Zw) (.br (Zam (Zo Zw) [((0:Int),((0:Int),(1:Int))),((1:Int),((0:Int),(1:Int)))]) (.br (Zaz (Zo Zw) [((0:Int),((0:Int),(1:Int))),((1:Int),((0:Int),(1:Int)))]) (.br (Zby Zw) (.br (Zam (Z6 Zw) [((0:Int),((0:Int),(1:Int))),((1:Int),((0:Int),(1:Int)))]) (.br (Zaz (Z6 Zw) [((0:Int),((0:Int),(1:Int))),((1:Int),((0:Int),(1:Int)))]) (.br (ZH ([],[])) (.leaf ((Int.ofNat (List.length (Zo ([],[]))))==(0:Int))) (.no)) (.leaf false)) (.no)) (.no)) (.leaf false)) (.no)) (.no)
def Ze5:Bool:=bif (ZH Zw) then bif (Zam (Zo Zw) [((0:Int),((0:Int),(1:Int))),((1:Int),((0:Int),(1:Int)))]) then bif (Zaz (Zo Zw) [((0:Int),((0:Int),(1:Int))),((1:Int),((0:Int),(1:Int)))]) then bif (Zby Zw) then bif (Zam (Z6 Zw) [((0:Int),((0:Int),(1:Int))),((1:Int),((0:Int),(1:Int)))]) then bif (Zaz (Z6 Zw) [((0:Int),((0:Int),(1:Int))),((1:Int),((0:Int),(1:Int)))]) then bif (ZH ([],[])) then ((Int.ofNat (List.length (Zo ([],[]))))==(0:Int)) else false else false else false else false else false else false else false
def Zfu:Bool:=bif (ZH Zw) then bif (Zam (Zo Zw) [((0:Int),((0:Int),(1:Int))),((1:Int),((0:Int),(1:Int)))]) then bif (Zaz (Zo Zw) [((0:Int),((0:Int),(1:Int))),((1:Int),((0:Int),(1:Int)))]) then bif (Zby Zw) then bif (Zam (Z6 Zw) [((0:Int),((0:Int),(1:Int))),((1:Int),((0:Int),(1:Int)))]) then bif (Zaz (Z6 Zw) [((0:Int),((0:Int),(1:Int))),((1:Int),((0:Int),(1:Int)))]) then bif (ZH ([],[])) then true else false else true else false else false else true else false else false
theorem Zwe (hk:Zfu=true):Goes (ZoD) (ZnG) (Ze5):=Goes.brk hk (fun hk=>Goes.brk hk (fun hk=>Goes.brk hk (fun hk=>Goes.brk hk (fun hk=>Goes.brk hk (fun hk=>Goes.brk hk (fun hk=>Goes.brk hk (fun hk=>Goes.leaf) (fun hk=>Goes.nok hk)) (fun hk=>Goes.leaf)) (fun hk=>Goes.nok hk)) (fun hk=>Goes.nok hk)) (fun hk=>Goes.leaf)) (fun hk=>Goes.nok hk)) (fun hk=>Goes.nok hk)
def Zhf:Bool→AV:=fun (r:Bool)=>.d .bool r
def Zcn:Empty→Nat×St:=fun j=>nomatch j
theorem Zuf (L:Lt):entryA Go.Proofs.Tryz.prog (clOf Zj2) Zjq Go.Proofs.Tryz.f7 Zg1 L (toForms ZcO (()))=(ZnG).run (fun v=>some (Zhf v,tps (toForms ZcO (())))) fun j=>L (Zcn j).1 (Zcn j).2:=by kernel_rfl
theorem ZtZ:∀(L:Lt) (j:Empty),procOf (procsF Go.Proofs.Tryz.prog (clOf Zj2) Zjq Go.Proofs.Tryz.f7 Zg1 (toForms ZcO (()))) (Zcn j).1 L (Zcn j).2=(ZoD j).run (fun v=>some (Zhf v,tps (toForms ZcO (())))) fun j=>L (Zcn j).1 (Zcn j).2:=fun L j=>nomatch j
noncomputable def ZpA:Run:=entG ZcO Zhf (fun a=>Zfu) (fun a=>Ze5)
theorem ZtU:EntOK Go.Proofs.Tryz.prog 7 ZpA:=Zao (tb:=Zjq) (c:=Zg1) ZtS (by kernel_rfl) (by kernel_rfl) (by kernel_rfl) (fun a=>by kernel_rfl) fun _ hk=>Zp (c:=Zg1) (K:=fun v=>(Zhf v,tps (toForms ZcO (())))) (S:=Zcn) (by kernel_rfl) (Zuf) (ZtZ) (Zwe hk)
end
end Go.Ev
end

section
open Go Go.Ev
namespace Go.Ev
noncomputable section
def ZL:Sig:=[(false,(.sl (.sl Zh))),(false,(.sl Zh))]
noncomputable def Zes:Tbl:=[(4,ZsD),(5,Zpt),(6,Zhk),(7,ZpA)]
theorem Znd:∀p∈Zes,EntOK Go.Proofs.Tryz.prog p.1 p.2:=Zi Zzi (Zi Zui (Zi Zje (Zi ZtU (Zu))))
noncomputable def Zb5:Code:=Go.Proofs.Tryz.f3.body.getD .skip
def ZgE:Tb:=[(4,⟨[1,5,6],[]⟩),(9,⟨[1,5,6,7],[]⟩)]
inductive Zbl where | l4 (t:Int) (p:List (List (El Za))) | l9 (i:Int) (p:List (List (El Za))) (t:Int)
def ZaA (l:List (List (El Zh))) (m:List (El Zh)):Zbl→JT Zbl (Bool) |.l4 t p=>.br (decide (t < (Int.ofNat (List.length p)))) (.jmp (.l9 (0:Int) p t)) (.br (ZcW [m,[]] (2:Int) (8:Int)) (.br (ZH ((Zs l (3:Int) (6:Int)).1,p)) (.br ((Int.ofNat (List.length (Zo ((Zs l (3:Int) (6:Int)).1,p))))==(0:Int)) (.br (ZH (Zs [m,[]] (2:Int) (8:Int))) (.br ((Int.ofNat (List.length (Zo (Zs [m,[]] (2:Int) (8:Int)))))==(0:Int)) (.br Zfu (.leaf Ze5) (.no)) (.leaf false)) (.no)) (.leaf false)) (.no)) (.no)) |.l9 i p t=>.br ((decide ((0:Int)≤t))&&(decide (t < (Int.ofNat (List.length p))))) (.br (decide (i < (Int.ofNat (List.length (List.getD p (Int.toNat t) (dflt (.sl Za))))))) (.br ((decide ((0:Int)≤t))&&(decide (t < (Int.ofNat (List.length p))))) (.br ((decide ((0:Int)≤i))&&(decide (i < (Int.ofNat (List.length (List.getD p (Int.toNat t) (dflt (.sl Za)))))))) (.br (Zfk (List.getD (List.getD p (Int.toNat t) (dflt (.sl Za))) (Int.toNat i) (dflt Za))) (.br (Zbu (List.getD (List.getD p (Int.toNat t) (dflt (.sl Za))) (Int.toNat i) (dflt Za))).2 (.br ((decide ((0:Int)≤t))&&(decide (t < (Int.ofNat (List.length p))))) (.br ((decide ((0:Int)≤i))&&(decide (i < (Int.ofNat (List.length (List.getD p (Int.toNat t) (dflt (.sl Za)))))))) (.jmp (.l9 (IntKind.i64.wrap (i+(1:Int))) (List.set p (Int.toNat t) (List.set (List.getD p (Int.toNat t) (dflt (.sl Za))) (Int.toNat i) ((8:Int),(false,((0:Int),((List.getD (List.getD p (Int.toNat t) (dflt (.sl Za))) (Int.toNat i) (dflt Za)).2.2.2.1,(((1:Int),((1:Int),((0:Int),(0:Int)))),((bs []),(List.getD (List.getD p (Int.toNat t) (dflt (.sl Za))) (Int.toNat i) (dflt Za)).2.2.2.2.2.2)))))))) t)) (.no)) (.no)) (.jmp (.l9 (IntKind.i64.wrap (i+(1:Int))) p t))) (.no)) (.no)) (.no)) (.jmp (.l4 (IntKind.i64.wrap (t+(1:Int))) p))) (.no)
def ZdT (l:List (List (El Zh))) (m:List (El Zh)):JT Zbl (Bool):=.br (ZcW l (3:Int) (6:Int)) (.jmp (.l4 (0:Int) (Zs l (3:Int) (6:Int)).2)) (.no)
def Zcp:Bool→AV:=fun (r:Bool)=>.d .bool r
def ZaB (l:List (List (El Zh))) (m:List (El Zh)):Zbl→Nat×St |.l4 t p=>(4,⟨mkTm 77 [(1,.d (.sl Zh) m),(5,.pt 6 0 0),(6,.d (.int .i64) t)],[(6,0,.box 27 [.own 6145 0 none,.dn 6146 0 []] none),(6145,0,.row 45 ZJ (Zs l (3:Int) (6:Int)).1 false),(6146,0,.deep 31 (.ro (.leaf Za)) p)]⟩) |.l9 i p t=>(9,⟨mkTm 77 [(1,.d (.sl Zh) m),(5,.pt 6 0 0),(6,.d (.int .i64) t),(7,.d (.int .i64) i)],[(6,0,.box 27 [.own 6145 0 none,.dn 6146 0 []] none),(6145,0,.row 45 ZJ (Zs l (3:Int) (6:Int)).1 false),(6146,0,.deep 31 (.ro (.leaf Za)) p)]⟩)
theorem Zng (l:List (List (El Zh))) (m:List (El Zh)) (L:Lt):entryA Go.Proofs.Tryz.prog (clOf Zes) ZgE Go.Proofs.Tryz.f3 Zb5 L (toForms ZL (l,m,()))=(ZdT l m).run (fun v=>some (Zcp v,tps (toForms ZL (l,m,())))) fun j=>L (ZaB l m j).1 (ZaB l m j).2:=by kernel_rfl
theorem Zne (l:List (List (El Zh))) (m:List (El Zh)):∀(L:Lt) (j:Zbl),procOf (procsF Go.Proofs.Tryz.prog (clOf Zes) ZgE Go.Proofs.Tryz.f3 Zb5 (toForms ZL (l,m,()))) (ZaB l m j).1 L (ZaB l m j).2=(ZaA l m j).run (fun v=>some (Zcp v,tps (toForms ZL (l,m,())))) fun j=>L (ZaB l m j).1 (ZaB l m j).2 | L,.l4 t p=>by kernel_rfl | L,.l9 i p t=>by kernel_rfl
end
end Go.Ev
end

section
namespace Go.Ev
open Go
theorem Zut (i:El Za) (ls:List ByteArray):Zr (setL i ls)=Zr i:=rfl
theorem ZFg (i:El Za) (ls:List ByteArray):(setL i ls).2.2.2.2.2.1=i.2.2.2.2.2.1:=rfl
theorem ZuX {th:List (List (El Za))} {k r s n:Int} (h:k=3∨k=4→placeOK k s n=true):placeC (symsB,th) (k,(r,(s,n)))=0:=by
 show placeN 3 _ k s n=0
 unfold placeN
 by_cases hk:k=3∨k=4
 ·rw[if_pos hk]
  have:=h hk
  unfold placeOK at this
  simp only[Bool.and_eq_true,decide_eq_true_eq,Bool.or_eq_true,beq_iff_eq] at this
  obtain ⟨h0,h3,hn⟩:=this
  rw[if_neg (by omega)]
  have hs:s=0∨s=1∨s=2:=by omega
  rcases hs with rfl | rfl | rfl
  ·rw[if_neg]
   rintro ⟨h1,h2⟩
   have h2:(1:Int)≤n:=h2
   rcases hn with hn | hn
   ·omega
   ·have hn:n < (1:Int):=hn
    omega
  ·rw[if_neg]
   rintro ⟨h1,h2⟩
   have h2:(2:Int)≤n:=h2
   rcases hn with hn | hn
   ·omega
   ·have hn:n < (2:Int):=hn
    omega
  ·rw[if_neg]
   rintro ⟨h1,h2⟩
   have h2:(1:Int)≤n:=h2
   rcases hn with hn | hn
   ·omega
   ·have hn:n < (1:Int):=hn
    omega
 ·rw[if_neg hk]
theorem ZC3 {th:List (List (El Za))} {many:Int} {i:El Za} (h:BookOK many i) (ls:List ByteArray):insC (symsB,th) (setL i ls)=0:=by
 have hA:placeC (symsB,th) i.2.2.2.1=0:=ZuX (k:=i.2.2.2.1.1) (r:=i.2.2.2.1.2.1) (s:=i.2.2.2.1.2.2.1) (n:=i.2.2.2.1.2.2.2) h.placeA
 have hB:placeC (symsB,th) i.2.2.2.2.1=0:=ZuX (k:=i.2.2.2.2.1.1) (r:=i.2.2.2.2.1.2.1) (s:=i.2.2.2.2.1.2.2.1) (n:=i.2.2.2.2.1.2.2.2) h.placeB
 unfold insC
 rw[Zut,h.right]
 show (if (0:Int)≠0 then _ else if placeC (symsB,th) i.2.2.2.1≠0 then _ else placeC (symsB,th) i.2.2.2.2.1)=0
 rw[hA,hB]
 rfl
theorem Zxs {p:El Zc} {K:List ByteArray→Int} :∀(x:List (El Za)) (k:Nat) (seen:List ByteArray),
  (∀(j:Nat) (i:El Za),x[j]? =some i→(i.2.2.2.2.2.2=[]∨i.2.2.2.2.2.2=[Zj ((k+j:Nat):Int)])∧insC p i=0)→(∀l∈seen,∃k',k' < k∧l=Zj (k':Int))→k+x.length≤100→scanI p K seen x=K (seen++labels x)
 | [],k,seen,_,_,_=>by simp[scanI,labels]
 | i :: r,k,seen,h,hs,hk=>by
  obtain ⟨hl,hi⟩:=h 0 i rfl
  rw[List.length_cons] at hk
  have hr:=fun seen' hs'=>Zxs (K:=K) r (k+1) seen' (fun j y hy=>by
   have:=h (j+1) y (by simpa using hy)
   rwa[show k+(j+1)=k+1+j by omega] at this) hs' (by omega)
  unfold scanI
  rcases hl with hl | hl
  ·rw[hl]
   unfold scanL
   rw[hi]
   simp only[ne_eq,not_true_eq_false,if_false]
   rw[hr seen fun l hl=>by obtain ⟨k',h1,h2⟩:=hs l hl;exact ⟨k',by omega,h2⟩]
   unfold labels
   rw[List.flatMap_cons,hl,List.nil_append]
  ·rw[hl,Nat.add_zero]
   unfold scanL
   rw[if_neg (by rw[(Zk4 (k:=(k:Int)) (by omega) (by omega)).1];decide)]
   have hns:seen.contains (Zj (k:Int))=false:=by
    rw[Bool.eq_false_iff]
    intro hc
    rw[List.contains_iff_mem] at hc
    obtain ⟨k',h1,h2⟩:=hs _ hc
    have:=ZCO (by omega) (by omega) h2
    omega
   rw[if_neg (by rw[hns];decide)]
   unfold scanL
   rw[hi]
   simp only[ne_eq,not_true_eq_false,if_false]
   rw[hr _ fun l hl=>by
    rcases List.mem_append.1 hl with hl | hl
    ·obtain ⟨k',h1,h2⟩:=hs l hl;exact ⟨k',by omega,h2⟩
    ·rw[List.mem_singleton] at hl;exact ⟨k,by omega,hl⟩]
   unfold labels
   rw[List.flatMap_cons,hl,Nat.add_zero,List.append_assoc]
theorem Zxw {seen:List ByteArray} :∀ {x:List (El Za)},(∀i∈x,((i.1==(10:Int)) || (i.1==(11:Int)))=true→seen.contains i.2.2.2.2.2.1=true)→jumpC seen x=0
 | [],_=>rfl
 | i :: r,h=>by
  unfold jumpC
  have ih:=Zxw fun j hj=>h j (List.mem_cons_of_mem _ hj)
  by_cases hj:((i.1==(10:Int)) || (i.1==(11:Int)))=true
  ·rw[if_pos hj,if_pos (h i (List.mem_cons_self ..) hj)];exact ih
  ·rw[if_neg hj];exact ih
theorem Zh7 {a:List (El Zh)} {n:Nat} (hn:n≤90) (ha:n≤a.length) {k:Nat} {i:El Za} (h:(threadB a n)[k]? =some i):
  (k < n∧∃x,(baseT a n)[k]? =some x∧BookOK ((n+1:Nat):Int) x∧i=setL x (if sAt (baseT a n) n k then [Zj (k:Int)] else []))∨(k=n∧i=setL (bare 14) (if sAt (baseT a n) n k then [Zj (k:Int)] else [])):=by
 have hl:=ZjD a n ha
 obtain ⟨hk,he⟩:=List.getElem?_eq_some_iff.1 h
 unfold threadB at hk he
 rw[Zfi hk] at he
 rw[Za7,hl] at hk
 by_cases hkn:k < n
 ·obtain ⟨x,h1,h2⟩:=ZB7 hn hkn ha
  obtain ⟨h3,h4⟩:=List.getElem?_eq_some_iff.1 h1
  rw[h4] at he
  exact .inl ⟨hkn,_,h1,h2,he.symm⟩
 ·have hkn:k=n:=by omega
  subst hkn
  have:(baseT a k)[k]'(by omega)=bare 14:=by
   unfold baseT
   rw[List.getElem_append_right (by simp;omega)]
   simp
  rw[this] at he
  exact .inr ⟨rfl,he.symm⟩
theorem ZzY (many:Int) (ls:List ByteArray) {th:List (List (El Za))} :insC (symsB,th) (setL (bare 14) ls)=0:=by
 unfold insC
 rw[Zut,ZCa (.inr (.inr rfl))]
 rfl
theorem ZB0 {x:List (El Za)} {k:Nat} {i:El Za} {l:ByteArray} (h:x[k]? =some i) (hl:l∈i.2.2.2.2.2.2):(labels x).contains l=true:=by
 rw[List.contains_iff_mem]
 unfold labels
 exact List.mem_flatMap.2 ⟨i,List.mem_of_getElem? h,hl⟩
theorem Zzv {a:List (El Zh)} {n:Nat} (hn:n≤90) (ha:n≤a.length) {th:List (List (El Za))} :threadC (symsB,th) (threadB a n)=0:=by
 have hlen:(threadB a n).length=n+1:=by unfold threadB;rw[Za7,ZjD a n ha]
 unfold threadC
 have hc:=ZCe (threadB a n)
 rw[if_neg (by omega),Zxs (threadB a n) 0 [] (fun j i h=>by
  rw[Nat.zero_add]
  rcases Zh7 hn ha h with ⟨_,x,_,hx,rfl⟩ | ⟨_,rfl⟩
  ·refine ⟨?_,ZC3 hx _⟩
   show (if _ then [Zj (j:Int)] else [])=[]∨(if _ then [Zj (j:Int)] else [])=[Zj (j:Int)]
   split
   ·exact .inr rfl
   ·exact .inl rfl
  ·refine ⟨?_,ZzY 0 _⟩
   show (if _ then [Zj (j:Int)] else [])=[]∨(if _ then [Zj (j:Int)] else [])=[Zj (j:Int)]
   split
   ·exact .inr rfl
   ·exact .inl rfl) (fun l hl=>by cases hl) (by omega)]
 rw[List.nil_append,ZCy (by omega)]
 have hlast:(threadB a n)[(threadB a n).length - 1]? =some ((threadB a n)[(threadB a n).length - 1]'(by omega)):=List.getElem?_eq_getElem (by omega)
 have h14:(((threadB a n)[(threadB a n).length - 1]'(by omega)).1==(10:Int) || ((threadB a n)[(threadB a n).length - 1]'(by omega)).1==(14:Int))=true:=by
  rcases Zh7 hn ha hlast with ⟨h1,_⟩ | ⟨_,h2⟩
  ·omega
  ·rw[h2];rfl
 rw[if_pos h14]
 refine Zxw fun i hi hj=>?_
 obtain ⟨k,hk⟩:=List.getElem?_of_mem hi
 rcases Zh7 hn ha hk with ⟨hkn,x,hx,hb,rfl⟩ | ⟨_,rfl⟩
 ·rw[ZFg]
  rcases hb.to with ⟨h1,h2,_⟩ | ⟨_,m,m0,m1,e⟩
  ·exfalso
   have hj:((x.1==(10:Int)) || (x.1==(11:Int)))=true:=hj
   simp only[Bool.or_eq_true,beq_iff_eq] at hj
   rcases hj with hj | hj
   ·exact h1 hj
   ·exact h2 hj
  ·rw[e]
   obtain ⟨q,rfl⟩:∃q:Nat,m=(q:Int):=⟨m.toNat,by omega⟩
   have hqn:q < n+1:=by omega
   have hq:(threadB a n)[q]? =some ((threadB a n)[q]'(by omega)):=List.getElem?_eq_getElem (by omega)
   have hs:sAt (baseT a n) n q=true:=by
    unfold sAt
    rw[List.any_eq_true]
    exact ⟨x,List.mem_of_getElem? (i:=k) (by rw[List.getElem?_take,if_pos hkn];exact hx),decide_eq_true e⟩
   refine ZB0 hq ?_
   rcases Zh7 hn ha hq with ⟨_,y,_,_,h2⟩ | ⟨_,h2⟩
   ·rw[h2,hs];exact List.mem_singleton.2 rfl
   ·rw[h2,hs];exact List.mem_singleton.2 rfl
 ·cases hj
theorem ZBZ {a:List (El Zh)} {n:Nat} (hn:n≤90) (ha:n≤a.length):smallThread (threadB a n)=true:=by
 have hlen:(threadB a n).length=n+1:=by unfold threadB;rw[Za7,ZjD a n ha]
 have hlab:∀i∈threadB a n,smallText i.2.2.2.2.2.1=true∧i.2.2.2.2.2.2.length≤1∧∀l∈i.2.2.2.2.2.2,smallText l=true:=fun i hi=>by
  obtain ⟨k,hk⟩:=List.getElem?_of_mem hi
  have hkl:=(List.getElem?_eq_some_iff.1 hk).1
  have hls:∀b:Bool,(if b=true then [Zj (k:Int)] else []).length≤1∧∀l∈(if b=true then [Zj (k:Int)] else []),smallText l=true:=fun b=>by
   cases b with
   | false=>exact ⟨by simp,fun l hl=>by simp at hl⟩
   | true=>exact ⟨by simp,fun l hl=>by
     rw[if_pos rfl,List.mem_singleton] at hl
     rw[hl];exact (Zk4 (by omega) (by omega)).2⟩
  rcases Zh7 hn ha hk with ⟨hkn,x,hx,hb,rfl⟩ | ⟨_,rfl⟩
  ·exact ⟨hb.small (by omega),hls _⟩
  ·exact ⟨(by decide:smallText (bs [])=true),hls _⟩
 have:=ZCc (t:=threadB a n) (n:=1) fun i hi=>(hlab i hi).2.1
 unfold smallThread
 simp only[Bool.and_eq_true,decide_eq_true_eq,List.all_eq_true]
 exact ⟨by omega,by omega,fun i hi=>⟨(hlab i hi).1,(hlab i hi).2.2⟩⟩
theorem ZBO (K:Int):symsC K [] symsB=K:=by kernel_rfl
theorem ZxF {p:El Zc} :∀ {th:List (List (El Za))},(∀t∈th,threadC p t=0)→thsC p th=0
 | [],_=>rfl
 | t :: r,h=>by
  unfold thsC
  rw[h t (List.mem_cons_self ..)]
  simp only[ne_eq,not_true_eq_false,if_false]
  exact ZxF fun x hx=>h x (List.mem_cons_of_mem _ hx)
theorem ZB5 (l:List (List (El Zh))) {threads many:Int} (h0:0≤threads) (h1:threads≤64) (m0:0≤many) (m1:many≤90):checkC (Zs l threads many)=0∧smallProg (Zs l threads many)=true∧ZcW l threads many=true:=by
 refine ⟨?_,?_,?_⟩
 ·unfold checkC Zs
  show (if 64 < symsB.length∨64 < ((l.take threads.toNat).map fun a=>threadB a (min a.length many.toNat)).length then (10:Int) else symsC (thsC _ ((l.take threads.toNat).map fun a=>threadB a (min a.length many.toNat))) [] symsB)=0
  rw[if_neg,ZBO]
  ·exact ZxF fun t ht=>by
    obtain ⟨a,_,rfl⟩:=List.mem_map.1 ht
    exact Zzv (by omega) (by omega)
  ·rw[List.length_map,List.length_take]
   have:symsB.length=3:=rfl
   omega
 ·unfold smallProg Zs
  simp only[Bool.and_eq_true,List.all_eq_true]
  refine ⟨?_,fun t ht=>?_⟩
  ·have:symsB.all (fun s=>smallText s.1)=true:=by decide+kernel
   rw[List.all_eq_true] at this
   exact this
  ·obtain ⟨a,_,rfl⟩:=List.mem_map.1 ht
   exact ZBZ (by omega) (by omega)
 ·unfold ZcW
  simp only[Bool.and_eq_true,decide_eq_true_eq]
  omega
end Go.Ev
end

section
namespace Go.Ev
open Go
theorem ZxL {l:List (List (El Za))} {n:Nat} (h:∀t∈l,List.length t≤n):total l≤n*l.length:=by
 unfold total
 induction l with
 | nil=>simp
 | cons t l ih=>
  rw[List.map_cons,List.sum_cons,List.length_cons,Nat.mul_add,Nat.mul_one]
  have h1:=h t (List.mem_cons_self ..)
  have h2:=ih fun x hx=>h x (List.mem_cons_of_mem _ hx)
  omega
theorem ZEB {p:El Zc} :(ofC p).length≤2*total p.2:=by
 have:=Zwy 0 p.2
 unfold ofC
 split
 ·exact this
 ·simp
theorem ZBe (l:List (List (El Zh))) {threads many:Int} (h0:0≤threads) (h1:threads≤64) (m0:0≤many) (m1:many≤90):
  smallAll (Zs l threads many)=true∧(Zs l threads many).2.length≤threads.toNat∧(ofC (Zs l threads many)).length≤11648∧checkC (Zs l threads many)=0∧ZcW l threads many=true:=by
 obtain ⟨hc,hs,hk⟩:=ZB5 l h0 h1 m0 m1
 have hl:(Zs l threads many).2.length≤threads.toNat:=by
  show ((l.take threads.toNat).map fun a=>threadB a (min a.length many.toNat)).length≤_
  rw[List.length_map,List.length_take];omega
 have ht:=ZxL (l:=(Zs l threads many).2) (n:=91) fun t hm=>by
  obtain ⟨a,_,rfl⟩:=List.mem_map.1 (show t∈(l.take threads.toNat).map fun a=>threadB a (min a.length many.toNat) from hm)
  show (threadB a _).length≤91
  unfold threadB
  rw[Za7,ZjD a _ (by omega)]
  omega
 have ho:= @ZEB (Zs l threads many)
 refine ⟨?_,hl,by omega,hc,hk⟩
 unfold smallAll
 simp only[Bool.and_eq_true,decide_eq_true_eq]
 exact ⟨hs,by omega,by omega⟩
end Go.Ev
end

section
open Go
namespace Go.Ev
section
variable {α:Type} (f:α→α)
def mapR (x:List α) (i:Nat):List α:=(x.take i).map f++x.drop i
def mapQ (q:List (List α)) (t i:Nat):List (List α):=(q.take t).map (List.map f)++((q.drop t).take 1).map (fun x=>mapR f x i)++q.drop (t+1)
variable {f}
theorem ZBt {x:List α} {i:Nat} (h:i≤x.length):(mapR f x i).length=x.length:=by unfold mapR;simp;omega
theorem ZD8 {x:List α} {i:Nat} (h:i < x.length) (z:α):(mapR f x i).getD i z=x[i]:=by
 unfold mapR
 rw[List.getD_eq_getElem?_getD,List.getElem?_append_right (by simp;omega)]
 simp[Nat.min_eq_left (Nat.le_of_lt h),List.getElem?_eq_getElem h]
theorem ZBj {x:List α} {i:Nat} (h:i < x.length):(mapR f x i).set i (f x[i])=mapR f x (i+1):=by
 unfold mapR
 have hml:((x.take i).map f).length=i:=by rw[List.length_map,List.length_take,Nat.min_eq_left (Nat.le_of_lt h)]
 rw[List.set_append_right _ _ (by omega),hml,Nat.sub_self,Z3 h,List.set_cons_zero,List.take_succ_eq_append_getElem h,List.map_append,List.append_assoc]
 rfl
theorem ZCz {x:List α} {i:Nat} (h:i < x.length) (hf:f x[i]=x[i]):mapR f x (i+1)=mapR f x i:=by
 rw[←ZBj h,hf]
 have:(mapR f x i)[i]? =some x[i]:=by
  unfold mapR
  rw[List.getElem?_append_right (by simp;omega)]
  simp[Nat.min_eq_left (Nat.le_of_lt h),List.getElem?_eq_getElem h]
 have hlt:=(List.getElem?_eq_some_iff.1 this)
 obtain ⟨h1,h2⟩:=hlt
 rw[←h2]
 exact List.set_getElem_self h1
theorem ZEm {x:List α} :mapR f x x.length=x.map f:=by unfold mapR;rw[List.take_length,List.drop_length,List.append_nil]
theorem Zzm {x:List α} :mapR f x 0=x:=by unfold mapR;simp
theorem ZnZ {q:List (List α)} {t i:Nat} (h:t < q.length):mapQ f q t i=(q.take t).map (List.map f)++mapR f q[t] i :: q.drop (t+1):=by
 unfold mapQ
 rw[Z3 h,List.take_succ_cons,List.take_zero,List.map_cons,List.map_nil,List.append_assoc]
 rfl
theorem ZvN {q:List (List α)} {t i:Nat} (h:t < q.length):(mapQ f q t i).length=q.length:=by rw[ZnZ h];simp;omega
theorem ZA9 {q:List (List α)} {t i:Nat} (h:t < q.length) (z:List α):(mapQ f q t i).getD t z=mapR f q[t] i:=by
 rw[ZnZ h,List.getD_eq_getElem?_getD,List.getElem?_append_right (by simp;omega)]
 simp[Nat.min_eq_left (Nat.le_of_lt h)]
theorem ZDO {q:List (List α)} {t i j:Nat} (h:t < q.length):(mapQ f q t i).set t (mapR f q[t] j)=mapQ f q t j:=by
 have hml:((q.take t).map (List.map f)).length=t:=by rw[List.length_map,List.length_take,Nat.min_eq_left (Nat.le_of_lt h)]
 rw[ZnZ h,ZnZ h,List.set_append_right _ _ (by omega),hml,Nat.sub_self,List.set_cons_zero]
theorem ZDj {q:List (List α)} {t:Nat} (h:t < q.length):mapQ f q t (List.length q[t])=mapQ f q (t+1) 0:=by
 rw[ZnZ h,ZEm]
 unfold mapQ
 rw[List.take_succ_eq_append_getElem h,List.map_append,List.append_assoc,List.append_assoc]
 have:((q.drop (t+1)).take 1).map (fun x=>mapR f x 0)++q.drop (t+1+1)=q.drop (t+1):=by
  by_cases h2:t+1 < q.length
  ·rw[Z3 h2,List.take_succ_cons,List.take_zero,List.map_cons,List.map_nil,Zzm];rfl
  ·rw[List.drop_eq_nil_of_le (by omega),List.drop_eq_nil_of_le (by omega)];rfl
 rw[this]
 rfl
theorem ZDJ {q:List (List α)} :mapQ f q q.length 0=q.map (List.map f):=by
 unfold mapQ
 rw[List.take_length,List.drop_length,List.drop_eq_nil_of_le (by omega)]
 simp
theorem ZC5 {q:List (List α)} :mapQ f q 0 0=q:=by
 unfold mapQ
 cases q with
 | nil=>rfl
 | cons x r=>simp[Zzm]
end
def keepsI (f:El Za→El Za):Prop:=∀x,(f x).2.2.2.2.2.2=x.2.2.2.2.2.2∧(smallText x.2.2.2.2.2.1=true→smallText (f x).2.2.2.2.2.1=true)
variable {f:El Za→El Za}
theorem ZBy (hf:keepsI f) (t:List (El Za)):labels (t.map f)=labels t:=by
 unfold labels
 rw[List.flatMap_map]
 congr 1
 funext x
 exact (hf x).1
theorem ZrI (hf:keepsI f) {t:List (El Za)} (h:smallThread t=true):smallThread (t.map f)=true:=by
 unfold smallThread at h ⊢
 rw[ZBy hf]
 simp only[Bool.and_eq_true,decide_eq_true_eq,List.all_eq_true,List.length_map,List.mem_map] at h ⊢
 refine ⟨h.1,h.2.1,fun y hy=>?_⟩
 obtain ⟨x,hx,rfl⟩:=hy
 exact ⟨(hf x).2 (h.2.2 x hx).1,fun l hl=>(h.2.2 x hx).2 l ((hf x).1▸hl)⟩
theorem ZyY {q:List (List (El Za))} :total (q.map (List.map f))=total q:=by
 unfold total
 rw[List.map_map]
 congr 1
 refine List.map_congr_left fun x _=>?_
 simp
theorem ZBI (l:List (List (El Zh))) {threads many:Int} (h0:0≤threads) (h1:threads≤64) (m0:0≤many) (m1:many≤90):total (Zs l threads many).2≤5824:=by
 have hl:(Zs l threads many).2.length≤threads.toNat:=by
  show ((l.take threads.toNat).map fun a=>threadB a (min a.length many.toNat)).length≤_
  rw[List.length_map,List.length_take];omega
 have ht:=ZxL (l:=(Zs l threads many).2) (n:=91) fun t hm=>by
  obtain ⟨a,_,rfl⟩:=List.mem_map.1 (show t∈(l.take threads.toNat).map fun a=>threadB a (min a.length many.toNat) from hm)
  show (threadB a _).length≤91
  unfold threadB
  rw[Za7,ZjD a _ (by omega)]
  omega
 omega
theorem ZEH {p:El Zc} (h:total p.2≤5824):(ofC (p.1,p.2.map (List.map f))).length≤11648:=by
 have:= @ZEB (p.1,p.2.map (List.map f))
 have e:total ((p.1,p.2.map (List.map f)):El Zc).2=total p.2:=ZyY
 omega
theorem ZyF (hf:keepsI f) {p:El Zc} (h:smallAll p=true):smallAll (p.1,p.2.map (List.map f))=true:=by
 unfold smallAll smallProg at h ⊢
 simp only[Bool.and_eq_true,decide_eq_true_eq,List.all_eq_true,List.length_map,List.mem_map] at h ⊢
 obtain ⟨⟨h1,h2⟩,h3,h4⟩:=h
 refine ⟨⟨h1,fun y hy=>?_⟩,h3,by rw[ZyY];exact h4⟩
 obtain ⟨x,hx,rfl⟩:=hy
 exact ZrI hf (h2 x hx)
end Go.Ev
end

section
open Go
namespace Go.Ev
end Go.Ev
end

section
open Go
namespace Go.Ev
end Go.Ev
end

section

end

section
open Go Go.Ev
namespace Go.Ev
noncomputable section
end
end Go.Ev
end

section
open Go
namespace Go.Ev
end Go.Ev
end

section

end

section
open Go
namespace Go.Ev
end Go.Ev
end

section

end

section
open Go
namespace Go.Ev
end Go.Ev
end

section

end

section
open Go Go.Ev
namespace Go.Ev
noncomputable section
end
end Go.Ev
end

section
open Go Go.Ev
namespace Go.Ev
noncomputable section
end
end Go.Ev
end

section
namespace Go.Ev
open Go
theorem ZDx {i:El Za} (h:smallText i.2.2.2.2.2.1=true):Zbu i=Z8 i:=by
 have h0:ZM i=true:=h
 have h1:Zbh i=true:=h
 unfold Zbu Z8 Zbg
 simp only[h0,h1,cond_true]
 by_cases hr:Zr i=0
 ·simp only[hr,bne_self_eq_false,cond_false]
  rcases nine i.1 with ⟨h9,e⟩ | ⟨h9,e⟩
  ·obtain ⟨a,b⟩:=ZEX hr h9
   rw[a,e,cond_false]
   cases ZI i.2.2.2.1 <;> simp only[Bool.not_true,Bool.not_false,cond_true,cond_false,Bool.cond_self]
  ·obtain ⟨a,b⟩:=ZDK hr h9
   rw[a,e]
   simp only[cond_true,Bool.not_false]
 ·have e:(Zr i !=0)=true:=by simp[hr]
  simp only[e,cond_true]
end Go.Ev
end

section
open Go
namespace Go.Ev
end Go.Ev
end

section

end

section
open Go Go.Ev
namespace Go.Ev
noncomputable section
end
end Go.Ev
end

section
open Go
namespace Go.Ev
end Go.Ev
end

section
open Go
namespace Go.Ev
def rowOf (n:Nat) (M:Nat→Bool):List Bool:=(List.range n).map M
theorem ZqS {n:Nat} {M:Nat→Bool} :(rowOf n M).length=n:=by simp[rowOf]
theorem ZCf {n:Nat} {M:Nat→Bool} {i:Nat} (h:i < n):(rowOf n M)[i]? =some (M i):=by simp[rowOf,h]
end Go.Ev
end

section

end

section
open Go
namespace Go.Ev
theorem ZB2 {n:Nat} {M:Nat→Bool} {i:Nat} (h:i < n):List.getD (rowOf n M) i (dflt .bool)=M i:=by
 simp[List.getD,ZCf h]
end Go.Ev
end

section
open Go
namespace Go.Ev
end Go.Ev
end

section

end

section
open Go Go.Ev
namespace Go.Ev
noncomputable section
end
end Go.Ev
end

section
open Go Go.Ev
namespace Go.Ev
noncomputable section
end
end Go.Ev
end

section
open Go
namespace Go.Ev
theorem Zmh {p:El Zc} (h:smallAll p=true) {i:Nat} (hi:i < (ofC p).length):
  0≤thA (ofC p) i∧thA (ofC p) i < (p.2.length:Int)∧flowOK (thrOf p (ofC p) i)=true∧0≤inA (ofC p) i∧inA (ofC p) i < ((thrOf p (ofC p) i).length:Int):=by
 have hA:=smallA h
 have hm:accA (ofC p) i∈ofC p:=by unfold accA;rw[Z4 hi];exact List.getElem_mem hi
 obtain ⟨u,x,j,y,h1,h2,h3,h4,h5⟩:=Zps hm
 have hth:thA (ofC p) i=(u:Int):=h4
 have hin:inA (ofC p) i=(j:Int):=h5
 have hu:=(List.getElem?_eq_some_iff.1 h1).1
 have hj:=(List.getElem?_eq_some_iff.1 h2).1
 have ht:thrOf p (ofC p) i=x:=by
  unfold thrOf
  rw[hth,Int.toNat_natCast,List.getD_eq_getElem?_getD,h1];rfl
 rw[ht]
 exact ⟨by omega,by omega,Zqd (hA.thr x (List.mem_of_getElem? h1)),by omega,by omega⟩
end Go.Ev
end

/- Part of the proof of: Of one thread that the book makes no accesses clash, and no chain leads back; nor do they of up to three threads of which each instruction with memory as its first operand only reads it: for every input the law answers true. -/
import Derived.Shelf.Slices.In.SortNone
import Derived.Shelf.Sort.Plain
import Derived.Test.YtgdnbefkangpbaaDoorCon0
set_option maxRecDepth 100000
set_option linter.unusedSectionVars false
set_option linter.unusedVariables false
set_option linter.unusedSimpArgs false
section
open Go Go.Ev
namespace Go.Ev
noncomputable section
noncomputable def Zne:Run:=entG Zda Zhj (fun a=>ZdQ a.1 a.2.1) (fun a=>ZN a.1 a.2.1)
theorem ZrR:EntOK Go.Proofs.Tryd.prog 36 Zne:=Zay (tb:=ZiY) (c:=Zhz) Zsl (by kernel_rfl) (by kernel_rfl) (by kernel_rfl) (fun a=>by kernel_rfl) fun ⟨t,i,_⟩ hk=>Zs (c:=Zhz) (K:=fun v=>(Zhj v,tps (toForms Zda (t,i,())))) (S:=ZcL t i) (by kernel_rfl) (Zrz t i) (Zs8 t i) (Ztv t i hk)
end
end Go.Ev
end

section
open Go Go.Ev
namespace Go.Ev
noncomputable section
def ZbI:PSig:=[.obj 76 [(.d (.int .i64)),(.m (.int .i64) (.int .u64))]]
noncomputable def Zg0:Tbl:=[]
noncomputable def ZdS:Code:=match Go.Proofs.Tryd.f16.body with | some (.seq _ (.seq _ (.seq _ (.seq _ (.seq _ d)))))=>d | _=>.skip
def Zad:Tb:=[(2,⟨[0,4,26,27,28],[(5,62)]⟩),(8,⟨[0,4,7,8,26,27,28],[(5,62)]⟩)]
inductive Za7 where | l2 (h:Int) (h1:List Int) (h2:Int) (out:List Int) | l8 (k:Int) (h:Int) (h1:List Int) (i:Int) (out:List Int) (h2:Int)
def ZX (s:Int×List (Int×Int)) (places:List Int):Za7→JT Za7 ((List Int)×Int×List (Int×Int)) |.l2 h h1 h2 out=>.br (decide (h2 < h)) (.br ((decide ((0:Int)≤h2))&&(decide (h2 < (Int.ofNat (List.length h1))))) (.jmp (.l8 (List.getD h1 (Int.toNat h2) (dflt (.int .i64))) h h1 (0:Int) out h2)) (.no)) (.leaf (out,s)) |.l8 k h h1 i out h2=>.br (decide (i < (64:Int))) (.br (decide ((IntKind.u64.wrap i) < (0:Int))) (.no) (.br ((bitAnd IntKind.u64 (Int.fdiv (Option.getD (mget (kt:=(.int .i64)) k s.2) (0:Int)) (2 ^ (min (Int.toNat (IntKind.u64.wrap i)) (IntKind.u64).bits))) (1:Int))==(1:Int)) (.br (Nat.ble (((List.length out)+1)*8) limit) (.jmp (.l8 k h h1 (IntKind.i64.wrap (i+(1:Int))) (out++[(IntKind.i64.wrap ((IntKind.i64.wrap (k*(64:Int)))+i))]) h2)) (.no)) (.jmp (.l8 k h h1 (IntKind.i64.wrap (i+(1:Int))) out h2)))) (.jmp (.l2 h h1 (IntKind.i64.wrap (h2+(1:Int))) out))
def Zde (s:Int×List (Int×Int)) (places:List Int):JT Za7 ((List Int)×Int×List (Int×Int)):=.jmp (.l2 (Int.ofNat (List.length places)) places (0:Int) [])
def ZdK:(List Int)×Int×List (Int×Int)→Ans:=fun (r:(List Int)×Int×List (Int×Int))=>(.rw 3 (.int .i64) r.1,[.bx 76 [.d (.int .i64) r.2.1,.mv (.int .i64) (.int .u64) r.2.2]])
def Zau (s:Int×List (Int×Int)) (places:List Int):Za7→Nat×St |.l2 h h1 h2 out=>(2,⟨mkTm 56 [(0,.pt 1 0 0),(4,.own 5 0 none),(26,.own 27 0 none),(27,.d (.int .i64) h),(28,.d (.int .i64) h2)],[(1,0,.box 76 [.d (.int .i64) s.1,.mp 1026 0] (some 0)),(5,0,.row 3 (.int .i64) out false),(27,0,.row 3 (.int .i64) h1 false),(1026,0,.map (.int .i64) (.int .u64) s.2)]⟩) |.l8 k h h1 i out h2=>(8,⟨mkTm 56 [(0,.pt 1 0 0),(4,.own 5 0 none),(7,.d (.int .i64) k),(8,.d (.int .i64) i),(26,.own 27 0 none),(27,.d (.int .i64) h),(28,.d (.int .i64) h2)],[(1,0,.box 76 [.d (.int .i64) s.1,.mp 1026 0] (some 0)),(5,0,.row 3 (.int .i64) out false),(27,0,.row 3 (.int .i64) h1 false),(1026,0,.map (.int .i64) (.int .u64) s.2)]⟩)
def ZbJ (s:Int×List (Int×Int)) (places:List Int):St:=⟨mkTm 56 [(0,.pt 1 0 0),(3,.own 4 0 none),(4,.nil)],[(1,0,.box 76 [.d (.int .i64) s.1,.mp 1026 0] (some 0)),(4,0,.row 3 (.int .i64) places false),(1026,0,.map (.int .i64) (.int .u64) s.2)]⟩
theorem Zlc (s:Int×List (Int×Int)) (places:List Int) (L:Lt):evC Go.Proofs.Tryd.prog (clOf Zg0) Zad L ZdS 0 (finA Go.Proofs.Tryd.prog Zad Go.Proofs.Tryd.f16 (toPs ZbI (s,()))) (fun _ _=>none) (finA Go.Proofs.Tryd.prog Zad Go.Proofs.Tryd.f16 (toPs ZbI (s,()))) (ZbJ s places)=(Zde s places).run (fun v=>some (ZdK v)) fun j=>L (Zau s places j).1 (Zau s places j).2:=by kernel_rfl
noncomputable def ZfP (s:Int×List (Int×Int)) (places:List Int):List (Nat×(Lt→Kt)):=procs Go.Proofs.Tryd.prog (clOf Zg0) Zad ZdS 0 (fun _=>(finA Go.Proofs.Tryd.prog Zad Go.Proofs.Tryd.f16 (toPs ZbI (s,())))) (fun _ _ _=>none) (fun _=>(finA Go.Proofs.Tryd.prog Zad Go.Proofs.Tryd.f16 (toPs ZbI (s,()))))
theorem Zk1 (s:Int×List (Int×Int)) (places:List Int):∀(L:Lt) (j:Za7),procOf (ZfP s places) (Zau s places j).1 L (Zau s places j).2=(ZX s places j).run (fun v=>some (ZdK v)) fun j=>L (Zau s places j).1 (Zau s places j).2 | L,.l2 h h1 h2 out=>by kernel_rfl | L,.l8 k h h1 i out h2=>by kernel_rfl
end
end Go.Ev
end

section
open Go
namespace Go.Ev
theorem ZlI (s:Int×List (Int×Int)) (places:List Int) (hk:Nat.ble (places.length*512) limit=true):Goes (ZX s places) (Zde s places) (listAt s.2 places,s):=by
 have hlim:places.length*512≤limit:=Nat.le_of_ble_eq_true hk
 have hn:places.length < 4611686018427387904:=by unfold limit at hlim;omega
 have inner:∀(k:Int) (j:Nat),j < places.length→∀(i:Nat),i≤64→∀(out:List Int) r,(out.length+(64 - i))*8≤limit→
   Goes (ZX s places) (.jmp (.l2 (Int.ofNat (List.length places)) places ((j+1:Nat):Int) (out++wordList s.2 k i (64 - i)))) r→
   Goes (ZX s places) (.jmp (.l8 k (Int.ofNat (List.length places)) places (i:Int) out (j:Int))) r:=by
  intro k j hj
  refine down ?_ fun i hi ih=>?_
  ·intro out r _ h
   rw[Zm]
   have e:decide (((64:Nat):Int) < (64:Int))=false:=by decide
   simp only[ZX,Zg,e,Bool.false_eq_true,if_false,ZF (k:=j) (by omega)]
   simpa[wordList] using h
  ·intro out r hl h
   rw[Zm]
   have e:decide ((i:Int) < (64:Int))=true:=decide_eq_true (by omega)
   have hw:=Zkb hi
   have e2:decide ((i:Int) < (0:Int))=false:=decide_eq_false (by omega)
   have hcons:wordList s.2 k i (64 - i)=(if bitE (wordAt s.2 k) (i:Nat) then [numE k (i:Nat)] else [])++wordList s.2 k (i+1) (64 - (i+1)):=by
    unfold wordList
    rw[show 64 - i=(64 - (i+1))+1 by omega,List.range'_succ,List.filter_cons]
    split <;> simp
   rw[hcons] at h
   have hb:((bitAnd IntKind.u64 (Int.fdiv (Option.getD (mget (kt:=(.int .i64)) k s.2) (0:Int)) (2 ^ (min (Int.toNat (IntKind.u64.wrap (i:Int))) (IntKind.u64).bits))) (1:Int))==(1:Int))=bitE (wordAt s.2 k) (i:Nat):=rfl
   unfold ZX
   rw[Zg,if_pos e,Zg,if_neg (by rw[hw,e2];decide),Zg,hb,ZF (k:=i) (by omega)]
   by_cases hbit:bitE (wordAt s.2 k) (i:Nat)=true
   ·rw[if_pos hbit]
    rw[if_pos hbit] at h
    rw[Zg,if_pos (Nat.ble_eq_true_of_le (by omega))]
    refine ih (out++[numE k (i:Nat)]) r (by simp;omega) ?_
    simpa using h
   ·rw[if_neg hbit]
    rw[if_neg hbit,List.nil_append] at h
    exact ih out r (by omega) h
 have outer:∀j,j≤places.length→∀out:List Int,(out.length+(places.length - j)*64)*8≤limit→
   Goes (ZX s places) (.jmp (.l2 (Int.ofNat (List.length places)) places (j:Int) out)) (out++listAt s.2 (places.drop j),s):=by
  refine down ?_ fun j hj ih=>?_
  ·intro out _
   rw[Zm]
   simp only[ZX,Zg,ZO (Nat.lt_irrefl _),List.drop_length,Bool.false_eq_true,if_false]
   rw[show out++listAt s.2 []=out by simp[listAt]]
   exact .leaf
  ·intro out hl
   rw[Zm,ZT hj]
   simp only[ZX,Zg,Zam hj,nng,Bool.and_self,if_true,Int.toNat_natCast,ZZ hj]
   have hwl:=ZnA s.2 places[j] 0 64
   refine inner places[j] j hj 0 (by omega) out _ (by omega) ?_
   have:=ih (out++wordList s.2 places[j] 0 64) (by rw[List.length_append];omega)
   rw[show out++listAt s.2 (places[j] :: places.drop (j+1))=(out++wordList s.2 places[j] 0 64)++listAt s.2 (places.drop (j+1)) by simp only[listAt,List.flatMap_cons,List.append_assoc]]
   exact this
 have:=outer 0 (Nat.zero_le _) [] (by simp;omega)
 simpa[Zde] using this
end Go.Ev
end

section
open Go Go.Ev
namespace Go.Ev
def renSort:Go.Shelf.Ren:=⟨fun n=>if n=189 then 31 else if n=125 then 38 else if n=257 then 37 else if n=128 then 59 else if n=129 then 60 else if n=294 then 50 else if n=295 then 51 else if n=296 then 52 else if n=297 then 53 else if n=298 then 54 else if n=299 then 55 else if n=216 then 56 else if n=300 then 57 else if n=301 then 58 else if n=328 then 70 else if n=329 then 71 else if n=330 then 72 else if n=331 then 73 else if n=332 then 74 else if n=215 then 75 else if n=343 then 81 else n,
 fun n=>if n=28 then 31 else if n=46 then 79 else if n=51 then 114 else if n=53 then 78 else if n=183 then 107 else if n=182 then 106 else if n=131 then 102 else if n=218 then 134 else if n=222 then 138 else if n=228 then 142 else if n=229 then 119 else n,
 fun n=>n⟩
theorem Zmn:Go.Proofs.Lays.n189 Go.Proofs.Tryd.prog renSort where
 mixed:=by kernel_rfl
 f125:=by kernel_rfl
 f128:=by kernel_rfl
 f129:=by kernel_rfl
 f189:=by kernel_rfl
 f215:=by kernel_rfl
 f216:=by kernel_rfl
 f257:=by kernel_rfl
 f294:=by kernel_rfl
 f295:=by kernel_rfl
 f296:=by kernel_rfl
 f297:=by kernel_rfl
 f298:=by kernel_rfl
 f299:=by kernel_rfl
 f300:=by kernel_rfl
 f301:=by kernel_rfl
 f328:=by kernel_rfl
 f329:=by kernel_rfl
 f330:=by kernel_rfl
 f331:=by kernel_rfl
 f332:=by kernel_rfl
 f343:=by kernel_rfl
 t0:=by kernel_rfl
 a0:=fun w=>by kernel_rfl
 z0:=fun w=>by kernel_rfl
 v0:=fun w=>by kernel_rfl
 t3:=by kernel_rfl
 a3:=fun w=>by kernel_rfl
 z3:=fun w=>by kernel_rfl
 v3:=fun w=>by kernel_rfl
 t4:=by kernel_rfl
 a4:=fun w=>by kernel_rfl
 z4:=fun w=>by kernel_rfl
 v4:=fun w=>by kernel_rfl
 t5:=by kernel_rfl
 a5:=fun w=>by kernel_rfl
 z5:=fun w=>by kernel_rfl
 v5:=fun w=>by kernel_rfl
 t9:=by kernel_rfl
 a9:=fun w=>by kernel_rfl
 z9:=fun w=>by kernel_rfl
 v9:=fun w=>by kernel_rfl
 t28:=by kernel_rfl
 a28:=fun w=>by kernel_rfl
 z28:=fun w=>by kernel_rfl
 v28:=fun w=>by kernel_rfl
 t46:=by kernel_rfl
 a46:=fun w=>by kernel_rfl
 z46:=fun w=>by kernel_rfl
 v46:=fun w=>by kernel_rfl
 t51:=by kernel_rfl
 a51:=fun w=>by kernel_rfl
 z51:=fun w=>by kernel_rfl
 v51:=fun w=>by kernel_rfl
 t53:=by kernel_rfl
 a53:=fun w=>by kernel_rfl
 z53:=fun w=>by kernel_rfl
 v53:=fun w=>by kernel_rfl
 t131:=by kernel_rfl
 a131:=fun w=>by kernel_rfl
 z131:=fun w=>by kernel_rfl
 v131:=fun w=>by kernel_rfl
 t182:=by kernel_rfl
 a182:=fun w=>by kernel_rfl
 z182:=fun w=>by kernel_rfl
 v182:=fun w=>by kernel_rfl
 t183:=by kernel_rfl
 a183:=fun w=>by kernel_rfl
 z183:=fun w=>by kernel_rfl
 v183:=fun w=>by kernel_rfl
 t218:=by kernel_rfl
 a218:=fun w=>by kernel_rfl
 z218:=fun w=>by kernel_rfl
 v218:=fun w=>by kernel_rfl
 t222:=by kernel_rfl
 a222:=fun w=>by kernel_rfl
 z222:=fun w=>by kernel_rfl
 v222:=fun w=>by kernel_rfl
 t228:=by kernel_rfl
 a228:=fun w=>by kernel_rfl
 z228:=fun w=>by kernel_rfl
 v228:=fun w=>by kernel_rfl
 t229:=by kernel_rfl
 a229:=fun w=>by kernel_rfl
 z229:=fun w=>by kernel_rfl
 v229:=fun w=>by kernel_rfl
theorem sortOK:SortOK Go.Proofs.Tryd.prog 31:=⟨fun blk off cap zs w h1 h2 h3=>Go.Proofs.Any.slices_Sort_int Zmn blk off cap zs w h1 h2 h3,fun p cap w=>Go.Proofs.Any.slices_Sort_int_none Zmn p cap w⟩
end Go.Ev
end

section
open Go Go.Ev
namespace Go.Ev
def Zic:PSig:=[.obj 76 [(.d (.int .i64)),(.m (.int .i64) (.int .u64))]]
def Za1 (s:Int×List (Int×Int)):(List Int)×Int×List (Int×Int):=(listS s,s)
def Zax (s:Int×List (Int×Int)):Bool:=Nat.ble (s.2.length*512) limit
def Zip:(List Int)×Int×List (Int×Int)→Ans:=ZdK
section
abbrev SetL:=List (El (.int .i64)×El (.int .u64))
noncomputable def setListBody:Code:=Go.Proofs.Tryd.f16.body.getD .skip
noncomputable def setListR:Code:=fstC (sndC (sndC (sndC setListBody)))
noncomputable def setListX:RangeText:=rangeText (sndC setListR)
noncomputable def setListSort:Code:=fstC (sndC (sndC (sndC (sndC setListBody))))
def setLab1:Lab:=⟨[0,3,4],[]⟩
def setLab2:Lab:=⟨[0,3,4,15],[(4,62)]⟩
def setObs (s:Int×SetL) (ps:List (El (.int .i64))):List (Id×Nat×Obj):=[(1,0,.box 76 [.d (.int .i64) s.1,.mp 1026 0] (some 0)),(4,0,.row 3 (.int .i64) ps false),(1026,0,.gone (some 1000))]
def setK (s:Int×SetL) (v:Value) (ps:List (El (.int .i64))):St:=⟨mkTm 56 [(0,.pt 1 0 0),(3,.own 4 0 none),(4,.nil),(15,.cst v)],setObs s ps⟩
def setI (s:Int×SetL) (v:Value) (done:SetL):St:=setK s v (done.map Prod.fst)
def setT (s:Int×SetL) (v:Value) (done:SetL) (e:El (.int .i64)×El (.int .u64)):St:=((setI s v done).put (some 16) (.tu [mkB true,.d (.int .i64) e.1,.d (.int .u64) e.2])).put (some 17) (mkB true)
def setU (s:Int×SetL) (v:Value) (done:SetL) (e:El (.int .i64)×El (.int .u64)):St:=(((setT s v done e).put (some 18) (.tu [.d (.int .i64) e.1,.d (.int .u64) e.2])).put (some 19) (.d (.int .i64) e.1)).put (some 5) (.d (.int .i64) e.1)
def setE (s:Int×SetL) (v:Value) (done:SetL):St:=((setI s v done).put (some 16) (.tu [mkB false])).put (some 17) (mkB false)
def setA (s:Int×SetL):St:=⟨mkTm 56 [(0,.pt 1 0 0)],[(1,0,.box 76 [.d (.int .i64) s.1,.mp 1026 0] (some 0)),(1026,0,.map (.int .i64) (.int .u64) s.2)]⟩
def setC (s:Int×SetL):St:=⟨mkTm 56 [(0,.pt 1 0 0),(3,.nil),(4,.nil)],[(1,0,.box 76 [.d (.int .i64) s.1,.mp 1026 0] (some 0)),(1026,0,.map (.int .i64) (.int .u64) s.2)]⟩
def setM (s:Int×SetL):St:=((((setC s).put (some 11) (.pt 1 0 0)).put (some 12) (.pt 1 0 0)).put (some 13) (.pt 1 0 1)).put (some 14) (.mp 1026 0)
theorem ZtB:setListX.OK:=⟨by kernel_rfl,by kernel_rfl,by kernel_rfl,by kernel_rfl,by kernel_rfl,by kernel_rfl,by kernel_rfl,by kernel_rfl,by kernel_rfl⟩
theorem Zrb (s:Int×SetL) (v:Value) (done:SetL) (e:El (.int .i64)×El (.int .u64)) (L:Lt) (k:Kt) (x:Nat→Kt) (r:Kt):
  evC Go.Proofs.Tryd.prog (clOf []) [] L setListX.cr 0 (fun t=>k (norm Go.Proofs.Tryd.prog setLab2 t)) x r (setU s v done e)=bif Nat.ble (((done.map Prod.fst).length+1)*8) limit then k (setK s v (done.map Prod.fst++[e.1])) else none:=by kernel_rfl
theorem ZuS (s:Int×SetL) (hk:Zax s=true):RangeEv Go.Proofs.Tryd.prog (clOf []) setListX s.2 setLab2 1026 1000 (setI s) (setE s) (setT s) (setU s) where
 it:=fun v done=>by kernel_rfl
 r1:=fun v done e k=>by kernel_rfl
 rt:=fun v done e=>by kernel_rfl
 re:=fun v done e=>by kernel_rfl
 r2:=fun v done e k=>by kernel_rfl
 r3:=fun v done e rest hp L k x r=>by
  have hl:=hp.length_eq
  simp only[List.length_append,List.length_cons] at hl
  have hlim:s.2.length*512≤limit:=Nat.le_of_ble_eq_true hk
  rw[Zrb,List.length_map,Nat.ble_eq_true_of_le (by omega),cond_true]
  unfold setI
  rw[List.map_append]
  rfl
 f1:=fun v done k=>by kernel_rfl
 ft:=fun v done=>by kernel_rfl
theorem Zrr:setListBody=.seq (fstC setListBody) (.seq (fstC (sndC setListBody)) (.seq (fstC (sndC (sndC setListBody))) (.seq (.seq (.region (ridC (fstC setListR)) (ropsC (fstC setListR)) false) setListX.code) (.seq (.region (ridC setListSort) (ropsC setListSort) false) ZdS)))):=by kernel_rfl
theorem ZvG (s:Int×SetL) (L:Lt) (k:Kt) (x:Nat→Kt) (r:Kt):evC Go.Proofs.Tryd.prog (clOf []) [] L (fstC setListBody) 0 (fun t=>k (norm Go.Proofs.Tryd.prog setLab1 t)) x r (setA s)=k (setA s):=by kernel_rfl
theorem ZvY (s:Int×SetL) (L:Lt) (k:Kt) (x:Nat→Kt) (r:Kt):evC Go.Proofs.Tryd.prog (clOf []) [] L (fstC (sndC setListBody)) 0 (fun t=>k (norm Go.Proofs.Tryd.prog setLab1 t)) x r (setA s)=k (setA s):=by kernel_rfl
theorem Zvv (s:Int×SetL) (L:Lt) (k:Kt) (x:Nat→Kt) (r:Kt):evC Go.Proofs.Tryd.prog (clOf []) [] L (fstC (sndC (sndC setListBody))) 0 (fun t=>k (norm Go.Proofs.Tryd.prog setLab1 t)) x r (setA s)=k (setC s):=by kernel_rfl
def mapKV (P:Program) (T:TypeId):TypeId×TypeId:=match P.underlying T with | some (.map K V)=>(K,V) | _=>(0,0)
theorem ZjD (s:Int×SetL) (hk:Zax s=true):CallOK Go.Proofs.Tryd.prog 16 (toPs Zic (s,())) (Zip (Za1 s)):=by
 obtain ⟨hcl,hdet⟩:=ZlE (P:=Go.Proofs.Tryd.prog) ZD
 have hlim:s.2.length*512≤limit:=Nat.le_of_ble_eq_true hk
 refine ZrN (tb:=Zad) (fn:=Go.Proofs.Tryd.f16) (c:=setListBody) (vs:=[.pt 1 0 0]) (st:=⟨[],[(1,0,.box 76 [.d (.int .i64) s.1,.mp 1026 0] (some 0)),(1026,0,.map (.int .i64) (.int .u64) s.2)]⟩) (by kernel_rfl) (by kernel_rfl) (by kernel_rfl) ?_
 intro _ Mod F0 w0 a w hr
 have hr:Rel Mod F0 w0 (setA s) a w:=hr
 rw[Zrr]
 refine wp_seq (piece hcl hdet (norm Go.Proofs.Tryd.prog setLab1) (fun h=>Zjk h) (ZvG s) hr fun a w hr=>?_)
 refine wp_seq (piece hcl hdet (norm Go.Proofs.Tryd.prog setLab1) (fun h=>Zjk h) (ZvY s) hr fun a w hr=>?_)
 refine wp_seq (piece hcl hdet (norm Go.Proofs.Tryd.prog setLab1) (fun h=>Zjk h) (Zvv s) hr fun a w hr=>?_)
 refine wp_seq (wp_seq (wp_region ?_))
 rw[show List.range (ropsC (fstC setListR)).size=[0,1,2,3,4] from by kernel_rfl]
 refine evOp hcl (o:=opC (fstC setListR) 0) (st1:=(setC s).put (some 11) (.pt 1 0 0)) (by kernel_rfl) (by kernel_rfl) (fun k=>by kernel_rfl) hr fun a w hr=>?_
 refine evOp hcl (o:=opC (fstC setListR) 1) (st1:=((setC s).put (some 11) (.pt 1 0 0)).put (some 12) (.pt 1 0 0)) (by kernel_rfl) (by kernel_rfl) (fun k=>by kernel_rfl) hr fun a w hr=>?_
 refine evOp hcl (o:=opC (fstC setListR) 2) (st1:=(((setC s).put (some 11) (.pt 1 0 0)).put (some 12) (.pt 1 0 0)).put (some 13) (.pt 1 0 1)) (by kernel_rfl) (by kernel_rfl) (fun k=>by kernel_rfl) hr fun a w hr=>?_
 refine evOp hcl (o:=opC (fstC setListR) 3) (st1:=setM s) (by kernel_rfl) (by kernel_rfl) (fun k=>by kernel_rfl) hr fun a w hr=>?_
 refine handOp (o:=opC (fstC setListR) 4) (by kernel_rfl) (by kernel_rfl) ?_
 refine rangeLoop (tm:=14) (idm0:=1026) (ver0:=0) (T:=(match (opC (fstC setListR) 4).op with |.range T _=>T | _=>0)) (K:=(mapKV Go.Proofs.Tryd.prog (match (opC (fstC setListR) 4).op with |.range T _=>T | _=>0)).1) (V:=(mapKV Go.Proofs.Tryd.prog (match (opC (fstC setListR) 4).op with |.range T _=>T | _=>0)).2)
  hcl hdet ZtB rfl rfl (ZuS s hk) (by kernel_rfl) (by kernel_rfl) (by kernel_rfl) (by kernel_rfl) (by kernel_rfl) (by kernel_rfl) (fun v=>by kernel_rfl) (fun v done=>by kernel_rfl) (fun v done=>by kernel_rfl) hr ?_
 intro v done a w hperm hr
 have hr:Rel Mod F0 w0 (ZbJ s (done.map Prod.fst)) a w:=Zjk (P:=Go.Proofs.Tryd.prog) (lab:=setLab1) hr
 refine wp_seq (wp_region ?_)
 rw[show List.range (ropsC setListSort).size=[0,1] from by kernel_rfl]
 refine evOp hcl (o:=opC setListSort 0) (st1:=(ZbJ s (done.map Prod.fst)).put (some 24) (.own 4 0 none)) (by kernel_rfl) (by kernel_rfl) (fun k=>by kernel_rfl) hr fun a w hr=>?_
 refine handOp (o:=opC setListSort 1) (by kernel_rfl) (by kernel_rfl) ?_
 refine sortStep (ts:=24) (id:=4) (ver:=0) (E:=3) (l:=done.map Prod.fst) (c:=(match (opC setListSort 1).op with |.call c=>c | _=>default)) (fn:=Go.Proofs.Tryd.f31) (body:=Go.Proofs.Tryd.f31.body.getD .skip) (by kernel_rfl) (by kernel_rfl) (by kernel_rfl) (by kernel_rfl) (by kernel_rfl) (by kernel_rfl) (by kernel_rfl) (by kernel_rfl) sortOK (by
  rw[List.length_map,hperm.length_eq]
  unfold limit at hlim
  omega) hr fun a w hr=>?_
 have hr:Rel Mod F0 w0 (ZbJ s (sorted (done.map Prod.fst))) a w:=Zjk (P:=Go.Proofs.Tryd.prog) (lab:=setLab1) hr
 rw[Zt6 (hperm.map Prod.fst)] at hr
 have hg:=ZlI s (sorted (s.2.map Prod.fst)) (by rw[List.length_mergeSort,List.length_map];exact hk)
 exact tailStep hcl hdet (ps:=ZfP s (sorted (s.2.map Prod.fst))) rfl (by kernel_rfl) (Zlc s _) (Zk1 s _) hg hr
end
noncomputable def Zfa:Run:=entO Zic Zip (fun a=>Zax a.1) (fun a=>Za1 a.1)
theorem Zig:EntOK Go.Proofs.Tryd.prog 16 Zfa:=Zv8 (ZmO (ZmQ (fn:=Go.Proofs.Tryd.f16) (c:=setListBody) (by kernel_rfl) (by kernel_rfl) (by kernel_rfl))) fun a h=>ZjD a.1 h
end Go.Ev
end

section
open Go Go.Ev
namespace Go.Ev
noncomputable section
def Zc1:Sig:=[(true,(.sl Za)),(false,(.int .i64))]
noncomputable def Zki:Tbl:=[(12,Zjy),(36,Zne),(14,Zcy),(16,Zfa)]
theorem Zr3:∀p∈Zki,EntOK Go.Proofs.Tryd.prog p.1 p.2:=Zi Zky (Zi ZrR (Zi Zdi (Zi Zig (ZD))))
noncomputable def ZhE:Code:=Go.Proofs.Tryd.f30.body.getD .skip
def Zi4:Tb:=[(4,⟨[2,5,6],[(1000000000000000000000000000000000000000000000000000000000007,1)]⟩)]
inductive Zfz where | l4 (len:Nat) (seen:Int) (open_:List Int) (seen1:List (Int×Int))
def Ze4 (t:List (El Za)) (i:Int):Zfz→JT Zfz (List Int) |.l4 len seen open_ seen1=>.br (decide ((Int.ofNat len) > (0:Int))) (.br ((decide ((0:Int)≤(IntKind.i64.wrap ((Int.ofNat len) - (1:Int)))))&&(decide ((IntKind.i64.wrap ((Int.ofNat len) - (1:Int))) < (Int.ofNat len)))) (.br ((decide ((0:Int)≤(IntKind.i64.wrap ((Int.ofNat len) - (1:Int)))))&&(decide ((IntKind.i64.wrap ((Int.ofNat len) - (1:Int)))≤(Int.ofNat len)))) (.br (Zp (seen,seen1) (List.getD open_ (Int.toNat (IntKind.i64.wrap ((Int.ofNat len) - (1:Int)))) (dflt (.int .i64)))).1 (.br (ZdQ t (List.getD open_ (Int.toNat (IntKind.i64.wrap ((Int.ofNat len) - (1:Int)))) (dflt (.int .i64)))) (.br (Nat.ble (((List.length (List.take (Int.toNat (IntKind.i64.wrap ((Int.ofNat len) - (1:Int)))) open_))+(List.length (ZN t (List.getD open_ (Int.toNat (IntKind.i64.wrap ((Int.ofNat len) - (1:Int)))) (dflt (.int .i64))))))*8) limit) (.jmp (.l4 (List.length ((List.take (Int.toNat (IntKind.i64.wrap ((Int.ofNat len) - (1:Int)))) open_)++(ZN t (List.getD open_ (Int.toNat (IntKind.i64.wrap ((Int.ofNat len) - (1:Int)))) (dflt (.int .i64)))))) (Zp (seen,seen1) (List.getD open_ (Int.toNat (IntKind.i64.wrap ((Int.ofNat len) - (1:Int)))) (dflt (.int .i64)))).2.1 ((List.take (Int.toNat (IntKind.i64.wrap ((Int.ofNat len) - (1:Int)))) open_)++(ZN t (List.getD open_ (Int.toNat (IntKind.i64.wrap ((Int.ofNat len) - (1:Int)))) (dflt (.int .i64))))) (Zp (seen,seen1) (List.getD open_ (Int.toNat (IntKind.i64.wrap ((Int.ofNat len) - (1:Int)))) (dflt (.int .i64)))).2.2)) (.no)) (.no)) (.jmp (.l4 (Int.toNat (IntKind.i64.wrap ((Int.ofNat len) - (1:Int)))) (Zp (seen,seen1) (List.getD open_ (Int.toNat (IntKind.i64.wrap ((Int.ofNat len) - (1:Int)))) (dflt (.int .i64)))).2.1 open_ (Zp (seen,seen1) (List.getD open_ (Int.toNat (IntKind.i64.wrap ((Int.ofNat len) - (1:Int)))) (dflt (.int .i64)))).2.2))) (.no)) (.no)) (.br (Zax (seen,seen1)) (.leaf (Za1 (seen,seen1)).1) (.no))
def ZiN (t:List (El Za)) (i:Int):JT Zfz (List Int):=.br (ZdQ t i) (.jmp (.l4 (List.length (ZN t i)) (ZA (Int.ofNat (List.length t))).1 (ZN t i) (ZA (Int.ofNat (List.length t))).2)) (.no)
def ZhR:List Int→AV:=fun (r:List Int)=>.rw 3 (.int .i64) r
def ZcW (t:List (El Za)) (i:Int):Zfz→Nat×St |.l4 len seen open_ seen1=>(4,⟨mkTm 39 [(2,.pt 3 0 0),(5,.pt 6 0 0),(6,.own 7 0 (some len))],[(3,0,.box 35 [.d (.sl Za) t] none),(6,0,.box 76 [.d (.int .i64) seen,.mp 6146 0] none),(7,0,.row 3 (.int .i64) open_ false),(6146,0,.map (.int .i64) (.int .u64) seen1)]⟩)
theorem Ztb (t:List (El Za)) (i:Int) (L:Lt):entryA Go.Proofs.Tryd.prog (clOf Zki) Zi4 Go.Proofs.Tryd.f30 ZhE L (toForms Zc1 (t,i,()))=(ZiN t i).run (fun v=>some (ZhR v,tps (toForms Zc1 (t,i,())))) fun j=>L (ZcW t i j).1 (ZcW t i j).2:=by kernel_rfl
theorem ZsW (t:List (El Za)) (i:Int):∀(L:Lt) (j:Zfz),procOf (procsF Go.Proofs.Tryd.prog (clOf Zki) Zi4 Go.Proofs.Tryd.f30 ZhE (toForms Zc1 (t,i,()))) (ZcW t i j).1 L (ZcW t i j).2=(Ze4 t i j).run (fun v=>some (ZhR v,tps (toForms Zc1 (t,i,())))) fun j=>L (ZcW t i j).1 (ZcW t i j).2 | L,.l4 len seen open_ seen1=>by kernel_rfl
end
end Go.Ev
end

section
open Go
namespace Go.Ev
noncomputable def Zbk (t:List (El Za)) (i:Int):List Int:=listOf t.length (fromB t i)
def Zha (t:List (El Za)) (i:Int):Bool:=flowOK t
theorem Zpt (t:List (El Za)) (i:Int):(ZN t i).length≤3:=by
 unfold ZN
 by_cases h:0≤i∧i < (t.length:Int)
 ·obtain ⟨j,rfl⟩:=Int.eq_ofNat_of_zero_le h.1
  rw[←Zuf (by omega)]
  unfold nextL
  simp only[List.length_append]
  split <;> split <;> split <;> simp
 ·rw[ZnD h];simp
theorem ZvK {l:List Int} {n:Nat} (h:n+1≤l.length):l.take (n+1)=l.take n++[l.getD n 0]:=by
 have hn:n < l.length:=by omega
 rw[List.take_succ_eq_append_getElem hn,ZZ hn]
theorem Zth (t:List (El Za)) (i:Int) (hk:Zha t i=true):Goes (Ze4 t i) (ZiN t i) (Zbk t i):=by
 have hlen:=ZlK hk
 generalize hn:t.length=n at hlen
 have loop:∀m,∀(M:Nat→Bool) (s:Int×List (Int×Int)) (open_:List Int) (len:Nat),len≤open_.length→4*(n - card n M)+len=m→SetOK s n M→(∀j,M j=true→Come (fun k j=>nextB t (k:Int) j) (nextB t i) j)→
   (∀x∈open_.take len,∃j:Nat,x=(j:Int)∧Come (fun k j=>nextB t (k:Int) j) (nextB t i) j)→(∀j,nextB t i j=true→M j=true∨(j:Int)∈open_.take len)→(∀k j,M k=true→nextB t (k:Int) j=true→M j=true∨(j:Int)∈open_.take len)→
   len≤3*(card n M+1)→Goes (Ze4 t i) (.jmp (.l4 len s.1 open_ s.2)) (Zbk t i):=by
  intro m
  induction m using Nat.strongRecOn with
  | _ m ih=>
  intro M s open_ len hl hm hs h1 h2 h3 h4 h5
  cases len with
  | zero=>
   rw[Zm,Ze4,Zg,if_neg (by decide)]
   have hkl:Zax (s.1,s.2)=true:=Nat.ble_eq_true_of_le (by have:=hs.few;unfold limit;show s.2.length*512≤_;omega)
   rw[Zg,if_pos hkl]
   have hv:(Za1 (s.1,s.2)).1=Zbk t i:=by
    show listS s=_
    rw[hs.list (by omega)]
    unfold Zbk fromB
    rw[hn]
    refine ZiQ fun j _=>ZqY (fun j hj=>?_) (fun k j hk hj=>?_) h1 j
    ·simpa using h3 j hj
    ·simpa using h4 k j hk hj
   rw[hv];exact .leaf
  | succ len=>
   have hc:= @Zhu n M
   have e:IntKind.i64.wrap (Int.ofNat (len+1) - 1)=(len:Int):=by
    rw[wrap_i64 (by simp <;> omega) (by simp <;> omega)];simp
   have g1:decide (Int.ofNat (len+1) > (0:Int))=true:=decide_eq_true (by simp <;> omega)
   have g2:(decide ((0:Int)≤(len:Int))&&decide ((len:Int) < Int.ofNat (len+1)))=true:=ZaC (by omega)
   have g3:(decide ((0:Int)≤(len:Int))&&decide ((len:Int)≤Int.ofNat (len+1)))=true:=by simp;omega
   rw[Zm,Ze4,e,Zg,if_pos g1,Zg,if_pos g2,Zg,if_pos g3,Zg,Int.toNat_natCast]
   have htk:=ZvK hl
   obtain ⟨j,hj,hcj⟩:=h2 (open_.getD len 0) (by rw[htk];simp)
   have hjn:j < n:=by
    have:=Zvy (n:=t.length) (fun j=>Zf0) (fun k j=>Zf0) hcj
    omega
   have hd:open_.getD len (dflt (.int .i64))=(j:Int):=hj
   rw[hd]
   have hput:Zp (s.1,s.2) (j:Int)=putS s (j:Int):=rfl
   rw[hput]
   have sub:∀x,x∈open_.take len→x∈open_.take (len+1):=fun x hx=>by rw[htk];simp[hx]
   cases hMj:M j with
   | true=>
    have hno:=hs.put_no (by omega) (i:=(j:Int)) (fun h=>by rw[Int.toNat_natCast,hMj] at h;cases h.2.2)
    rw[hno,if_neg (by simp)]
    have lose:∀k:Nat,(M k=true∨(k:Int)∈open_.take (len+1))→(M k=true∨(k:Int)∈open_.take len):=fun k h=>by
     rcases h with h | h
     ·exact .inl h
     ·rw[htk,List.mem_append] at h
      rcases h with h | h
      ·exact .inr h
      ·simp only[List.mem_singleton] at h
       rw[hj] at h
       have:k=j:=by omega
       subst this
       exact .inl hMj
    exact ih (m - 1) (by omega) M s open_ len (by omega) (by omega) hs h1 (fun x hx=>h2 x (sub x hx)) (fun k hk=>lose k (h3 k hk)) (fun k k' hk hk'=>lose k' (h4 k k' hk hk')) (by omega)
   | false=>
    obtain ⟨p1,p2⟩:=hs.put (by omega) hjn hMj
    have hsh:=Zpt t (j:Int)
    have hkn:ZdQ t (j:Int)=true:=hk
    rw[p1,if_pos rfl,Zg,if_pos hkn,Zg,if_pos (Nat.ble_eq_true_of_le (by
     rw[List.length_take];unfold limit;omega))]
    have hcard:=ZmK hMj hjn
    have hcl2:= @Zhu n (fun k=>M k || (k==j))
    have hnl:∀k:Nat,nextB t (j:Int) k=true→(k:Int)∈ZN t (j:Int):=fun k hk=>Zc8.2 ⟨k,Zf0 hk,hk,rfl⟩
    have htake:(open_.take len++ZN t (j:Int)).take (open_.take len++ZN t (j:Int)).length=open_.take len++ZN t (j:Int):=List.take_length
    have hlen2:(open_.take len++ZN t (j:Int)).length≤len+3:=by rw[List.length_append,List.length_take];omega
    have keep:∀k:Nat,(M k=true∨(k:Int)∈open_.take (len+1))→((M k || (k==j))=true∨(k:Int)∈open_.take len++ZN t (j:Int)):=fun k h=>by
     rcases h with h | h
     ·exact .inl (by rw[h];rfl)
     ·rw[htk,List.mem_append] at h
      rcases h with h | h
      ·exact .inr (List.mem_append_left _ h)
      ·simp only[List.mem_singleton] at h
       rw[hj] at h
       have:k=j:=by omega
       subst this
       exact .inl (by simp)
    refine ih _ (by omega) (fun k=>M k || (k==j)) (putS s (j:Int)).2 (open_.take len++ZN t (j:Int)) (open_.take len++ZN t (j:Int)).length (Nat.le_refl _) rfl p2 (fun k hk=>?_) (fun x hx=>?_) (fun k hk=>?_) (fun k k' hk hk'=>?_) (by omega)
    ·simp only[Bool.or_eq_true,beq_iff_eq] at hk
     rcases hk with hk | hk
     ·exact h1 k hk
     ·subst hk;exact hcj
    ·rw[htake,List.mem_append] at hx
     rcases hx with hx | hx
     ·exact h2 x (sub x hx)
     ·obtain ⟨k,_,hk,rfl⟩:=Zc8.1 hx
      exact ⟨k,rfl,.step hcj hk⟩
    ·rw[htake];exact keep k (h3 k hk)
    ·rw[htake]
     simp only[Bool.or_eq_true,beq_iff_eq] at hk
     rcases hk with hk | hk
     ·exact keep k' (h4 k k' hk hk')
     ·subst hk
      exact .inr (List.mem_append_right _ (hnl k' hk'))
 have hkn:ZdQ t i=true:=hk
 unfold ZiN
 rw[Zg,if_pos hkn]
 have hnew:ZA (Int.ofNat (List.length t))=((n:Int),[]):=by
  rw[hn]
  unfold ZA
  simp
  omega
 rw[hnew]
 refine loop _ (fun _=>false) ((n:Int),[]) (ZN t i) _ (Nat.le_refl _) rfl (SetOK.new n) (fun j h=>by cases h) (fun x hx=>?_) (fun j hj=>.inr ?_) (fun k j h=>by cases h) (by have:=Zpt t i;omega)
 ·rw[List.take_length] at hx
  obtain ⟨k,_,hk,rfl⟩:=Zc8.1 hx
  exact ⟨k,rfl,.start hk⟩
 ·rw[List.take_length];exact Zc8.2 ⟨j,Zf0 hj,hj,rfl⟩
end Go.Ev
end

section
open Go Go.Ev
namespace Go.Ev
noncomputable section
noncomputable def ZnC:Run:=entG Zc1 ZhR (fun a=>Zha a.1 a.2.1) (fun a=>Zbk a.1 a.2.1)
theorem ZsU:EntOK Go.Proofs.Tryd.prog 30 ZnC:=Zay (tb:=Zi4) (c:=ZhE) Zr3 (by kernel_rfl) (by kernel_rfl) (by kernel_rfl) (fun a=>by kernel_rfl) fun ⟨t,i,_⟩ hk=>Zs (c:=ZhE) (K:=fun v=>(ZhR v,tps (toForms Zc1 (t,i,())))) (S:=ZcW t i) (by kernel_rfl) (Ztb t i) (ZsW t i) (Zth t i hk)
end
end Go.Ev
end

section
open Go Go.Ev
namespace Go.Ev
noncomputable section
def Zba:Sig:=[(true,Zd),(false,(.sl Zb)),(false,(.int .i64))]
noncomputable def Zgs:Tbl:=[(12,Zjy),(30,ZnC),(14,Zcy),(29,Zgz)]
theorem Zof:∀p∈Zgs,EntOK Go.Proofs.Tryd.prog p.1 p.2:=Zi Zky (Zi ZsU (Zi Zdi (Zi ZiP (ZD))))
noncomputable def Zd3:Code:=Go.Proofs.Tryd.f15.body.getD .skip
def Zfx:Tb:=[(6,⟨[1,2,7,9,32,33,34,58,64,69,70,72,76],[]⟩),(14,⟨[2,7,9,12,42,43,44],[(13,62)]⟩)]
inductive ZcH where | l6 (h:Int) (x:Int) (x1:Int) (x2:Int) (x3:Int) (x4:Bool) (x5:Bool) (from_:Int) (h1:List Int) (from_1:List (Int×Int)) (h2:Int) | l14 (x:Int) (x1:Int) (x2:Int) (x3:Int) (x4:Bool) (x5:Bool) (from_:Int) (from_1:List (Int×Int)) (h:Int) (out:List Int)
def Z6 (p:El Zd) (l:List (El Zb)) (c:Int):ZcH→JT ZcH (List Int) |.l6 h x x1 x2 x3 x4 x5 from_ h1 from_1 h2=>.br (decide (h2 < h)) (.br ((decide ((0:Int)≤h2))&&(decide (h2 < (Int.ofNat (List.length h1))))) (.jmp (.l6 h x x1 x2 x3 x4 x5 (Zp (from_,from_1) (List.getD h1 (Int.toNat h2) (dflt (.int .i64)))).2.1 h1 (Zp (from_,from_1) (List.getD h1 (Int.toNat h2) (dflt (.int .i64)))).2.2 (IntKind.i64.wrap (h2+(1:Int))))) (.no)) (.jmp (.l14 x x1 x2 x3 x4 x5 from_ from_1 (0:Int) [])) |.l14 x x1 x2 x3 x4 x5 from_ from_1 h out=>.br (decide (h < (Int.ofNat (List.length l)))) (.br ((decide ((0:Int)≤h))&&(decide (h < (Int.ofNat (List.length l))))) (.br ((List.getD l (Int.toNat h) (dflt Zb)).1==x) (.br (h==c) (.br (Nat.ble (((List.length out)+1)*8) limit) (.jmp (.l14 x x1 x2 x3 x4 x5 from_ from_1 (IntKind.i64.wrap (h+(1:Int))) (out++[h]))) (.no)) (.br ((List.getD l (Int.toNat h) (dflt Zb)).2.1==x1) (.br (decide ((List.getD l (Int.toNat h) (dflt Zb)).2.2.1 > x2)) (.br (Nat.ble (((List.length out)+1)*8) limit) (.jmp (.l14 x x1 x2 x3 x4 x5 from_ from_1 (IntKind.i64.wrap (h+(1:Int))) (out++[h]))) (.no)) (.br (Zz (from_,from_1) (List.getD l (Int.toNat h) (dflt Zb)).2.1).1 (.br (Nat.ble (((List.length out)+1)*8) limit) (.jmp (.l14 x x1 x2 x3 x4 x5 (Zz (from_,from_1) (List.getD l (Int.toNat h) (dflt Zb)).2.1).2.1 (Zz (from_,from_1) (List.getD l (Int.toNat h) (dflt Zb)).2.1).2.2 (IntKind.i64.wrap (h+(1:Int))) (out++[h]))) (.no)) (.jmp (.l14 x x1 x2 x3 x4 x5 (Zz (from_,from_1) (List.getD l (Int.toNat h) (dflt Zb)).2.1).2.1 (Zz (from_,from_1) (List.getD l (Int.toNat h) (dflt Zb)).2.1).2.2 (IntKind.i64.wrap (h+(1:Int))) out)))) (.br (Zz (from_,from_1) (List.getD l (Int.toNat h) (dflt Zb)).2.1).1 (.br (Nat.ble (((List.length out)+1)*8) limit) (.jmp (.l14 x x1 x2 x3 x4 x5 (Zz (from_,from_1) (List.getD l (Int.toNat h) (dflt Zb)).2.1).2.1 (Zz (from_,from_1) (List.getD l (Int.toNat h) (dflt Zb)).2.1).2.2 (IntKind.i64.wrap (h+(1:Int))) (out++[h]))) (.no)) (.jmp (.l14 x x1 x2 x3 x4 x5 (Zz (from_,from_1) (List.getD l (Int.toNat h) (dflt Zb)).2.1).2.1 (Zz (from_,from_1) (List.getD l (Int.toNat h) (dflt Zb)).2.1).2.2 (IntKind.i64.wrap (h+(1:Int))) out))))) (.jmp (.l14 x x1 x2 x3 x4 x5 from_ from_1 (IntKind.i64.wrap (h+(1:Int))) out))) (.no)) (.leaf out)
def Ze6 (p:El Zd) (l:List (El Zb)) (c:Int):JT ZcH (List Int):=.br ((decide ((0:Int)≤c))&&(decide (c < (Int.ofNat (List.length l))))) (.br ((decide ((0:Int)≤(List.getD l (Int.toNat c) (dflt Zb)).1))&&(decide ((List.getD l (Int.toNat c) (dflt Zb)).1 < (Int.ofNat (List.length p.2))))) (.br (Zha (List.getD p.2 (Int.toNat (List.getD l (Int.toNat c) (dflt Zb)).1) (dflt (.sl Za))) (List.getD l (Int.toNat c) (dflt Zb)).2.1) (.jmp (.l6 (Int.ofNat (List.length (Zbk (List.getD p.2 (Int.toNat (List.getD l (Int.toNat c) (dflt Zb)).1) (dflt (.sl Za))) (List.getD l (Int.toNat c) (dflt Zb)).2.1))) (List.getD l (Int.toNat c) (dflt Zb)).1 (List.getD l (Int.toNat c) (dflt Zb)).2.1 (List.getD l (Int.toNat c) (dflt Zb)).2.2.1 (List.getD l (Int.toNat c) (dflt Zb)).2.2.2.1 (List.getD l (Int.toNat c) (dflt Zb)).2.2.2.2.1 (List.getD l (Int.toNat c) (dflt Zb)).2.2.2.2.2 (ZA (Int.ofNat (List.length (List.getD p.2 (Int.toNat (List.getD l (Int.toNat c) (dflt Zb)).1) (dflt (.sl Za)))))).1 (Zbk (List.getD p.2 (Int.toNat (List.getD l (Int.toNat c) (dflt Zb)).1) (dflt (.sl Za))) (List.getD l (Int.toNat c) (dflt Zb)).2.1) (ZA (Int.ofNat (List.length (List.getD p.2 (Int.toNat (List.getD l (Int.toNat c) (dflt Zb)).1) (dflt (.sl Za)))))).2 (0:Int))) (.no)) (.no)) (.no)
def Zec:List Int→AV:=fun (r:List Int)=>.rw 3 (.int .i64) r
def ZaS (p:El Zd) (l:List (El Zb)) (c:Int):ZcH→Nat×St |.l6 h x x1 x2 x3 x4 x5 from_ h1 from_1 h2=>(6,⟨mkTm 85 [(1,.d (.sl Zb) l),(2,.d (.int .i64) c),(7,.pt 8 0 0),(9,.pt 10 0 0),(32,.own 33 0 none),(33,.d (.int .i64) h),(34,.d (.int .i64) h2)],[(8,0,.box 54 [.d (.int .i64) x,.d (.int .i64) x1,.d (.int .i64) x2,.d (.int .i64) x3,.d .bool x4,.d .bool x5] none),(10,0,.box 76 [.d (.int .i64) from_,.mp 10242 0] none),(33,0,.row 3 (.int .i64) h1 false),(10242,0,.map (.int .i64) (.int .u64) from_1)]⟩) |.l14 x x1 x2 x3 x4 x5 from_ from_1 h out=>(14,⟨mkTm 85 [(2,.d (.int .i64) c),(7,.pt 8 0 0),(9,.pt 10 0 0),(12,.own 13 0 none),(42,.d (.sl Zb) l),(43,.d (.int .i64) (Int.ofNat (List.length l))),(44,.d (.int .i64) h)],[(8,0,.box 54 [.d (.int .i64) x,.d (.int .i64) x1,.d (.int .i64) x2,.d (.int .i64) x3,.d .bool x4,.d .bool x5] none),(10,0,.box 76 [.d (.int .i64) from_,.mp 10242 0] none),(13,0,.row 3 (.int .i64) out false),(10242,0,.map (.int .i64) (.int .u64) from_1)]⟩)
theorem Zm1 (p:El Zd) (l:List (El Zb)) (c:Int) (L:Lt):entryA Go.Proofs.Tryd.prog (clOf Zgs) Zfx Go.Proofs.Tryd.f15 Zd3 L (toForms Zba (p,l,c,()))=(Ze6 p l c).run (fun v=>some (Zec v,tps (toForms Zba (p,l,c,())))) fun j=>L (ZaS p l c j).1 (ZaS p l c j).2:=by kernel_rfl
theorem ZnQ (p:El Zd) (l:List (El Zb)) (c:Int):∀(L:Lt) (j:ZcH),procOf (procsF Go.Proofs.Tryd.prog (clOf Zgs) Zfx Go.Proofs.Tryd.f15 Zd3 (toForms Zba (p,l,c,()))) (ZaS p l c j).1 L (ZaS p l c j).2=(Z6 p l c j).run (fun v=>some (Zec v,tps (toForms Zba (p,l,c,())))) fun j=>L (ZaS p l c j).1 (ZaS p l c j).2 | L,.l6 h x x1 x2 x3 x4 x5 from_ h1 from_1 h2=>by kernel_rfl | L,.l14 x x1 x2 x3 x4 x5 from_ from_1 h out=>by kernel_rfl
end
end Go.Ev
end

section
open Go
namespace Go.Ev
noncomputable def Zar (p:El Zd) (l:List (El Zb)) (c:Int):List Int:=listOf l.length (behB p l c.toNat)
def ZbC (p:El Zd) (l:List (El Zb)) (c:Int):Bool:=decide (0≤c∧c < (l.length:Int)∧l.length < 1099511627776)&&(decide (0≤thA l c.toNat∧thA l c.toNat < (p.2.length:Int))&&flowOK (thrOf p l c.toNat))
theorem Zpd (p:El Zd) (l:List (El Zb)) (c:Int) (hk:ZbC p l c=true):Goes (Z6 p l c) (Ze6 p l c) (Zar p l c):=by
 unfold ZbC at hk
 simp only[Bool.and_eq_true,decide_eq_true_eq] at hk
 obtain ⟨⟨c0,c1,hN⟩,⟨t0,t1⟩,hf⟩:=hk
 obtain ⟨c,rfl⟩:=Int.eq_ofNat_of_zero_le c0
 rw[Int.toNat_natCast] at t0 t1 hf
 have hc:c < l.length:=by omega
 have htl:=ZlK hf
 obtain ⟨t,ht⟩:∃t,thrOf p l c=t:=⟨_,rfl⟩
 have hg:List.getD p.2 (Int.toNat (List.getD l c (dflt Zb)).1) (dflt (.sl Za))=t:=ht
 rw[ht] at hf htl
 have kf:Zha t (List.getD l c (dflt Zb)).2.1=true:=hf
 obtain ⟨L,hL⟩:∃L,Zbk t (List.getD l c (dflt Zb)).2.1=L:=⟨_,rfl⟩
 have hLl:L.length≤t.length:=by rw[←hL];unfold Zbk;rw[Zlj];exact Zhu
 have hmem:∀x,x∈L↔∃i:Nat,i < t.length∧fromB t (inA l c) i=true∧x=(i:Int):=fun x=>by rw[←hL];exact Zc8
 unfold Ze6 Zar
 rw[Zg,if_pos (ZaC hc),Zg,Int.toNat_natCast]
 have hth:(decide ((0:Int)≤(List.getD l c (dflt Zb)).1)&&decide ((List.getD l c (dflt Zb)).1 < Int.ofNat p.2.length))=true:=by
  rw[Bool.and_eq_true,decide_eq_true_eq,decide_eq_true_eq];exact ⟨t0,t1⟩
 rw[if_pos hth,Zg,hg,if_pos kf,hL]
 have hnew:ZA (Int.ofNat (List.length t))=(((t.length:Nat):Int),[]):=by
  unfold ZA
  simp
  omega
 rw[hnew]
 have second:∀(s:Int×List (Int×Int)),SetOK s t.length (fromB t (inA l c))→∀h,h≤l.length→∀out:List Int,out.length≤h→
   Goes (Z6 p l (c:Int)) (.jmp (.l14 (List.getD l c (dflt Zb)).1 (List.getD l c (dflt Zb)).2.1 (List.getD l c (dflt Zb)).2.2.1 (List.getD l c (dflt Zb)).2.2.2.1 (List.getD l c (dflt Zb)).2.2.2.2.1 (List.getD l c (dflt Zb)).2.2.2.2.2 s.1 s.2 (h:Int) out)) (out++listR l.length (behB p l c) h):=by
  intro s hs
  refine down ?_ fun h hh ih=>?_
  ·intro out ho
   rw[Zm,Z6,Zg,if_neg (by rw[ZO (Nat.lt_irrefl _)];decide),Zwo,List.append_nil]
   exact .leaf
  ·intro out ho
   have b1:Nat.ble ((out.length+1)*8) limit=true:=Nat.ble_eq_true_of_le (by unfold limit;omega)
   have hhas:Zz (s.1,s.2) (inA l h)=(decide (0≤inA l h)&&fromB t (inA l c) (inA l h).toNat,s):=by
    show (hasS s (inA l h),s)=_
    rw[hs.has (by omega)]
   have add:behB p l c h=true→Goes (Z6 p l (c:Int)) (.jmp (.l14 (List.getD l c (dflt Zb)).1 (List.getD l c (dflt Zb)).2.1 (List.getD l c (dflt Zb)).2.2.1 (List.getD l c (dflt Zb)).2.2.2.1 (List.getD l c (dflt Zb)).2.2.2.2.1 (List.getD l c (dflt Zb)).2.2.2.2.2 s.1 s.2 ((h+1:Nat):Int) (out++[(h:Int)]))) (out++listR l.length (behB p l c) h):=fun hb=>by
    rw[ZpR hh,if_pos hb]
    have:=ih (out++[(h:Int)]) (by simp;omega)
    rwa[List.append_assoc] at this
   have skip:behB p l c h=false→Goes (Z6 p l (c:Int)) (.jmp (.l14 (List.getD l c (dflt Zb)).1 (List.getD l c (dflt Zb)).2.1 (List.getD l c (dflt Zb)).2.2.1 (List.getD l c (dflt Zb)).2.2.2.1 (List.getD l c (dflt Zb)).2.2.2.2.1 (List.getD l c (dflt Zb)).2.2.2.2.2 s.1 s.2 ((h+1:Nat):Int) out)) (out++listR l.length (behB p l c) h):=fun hb=>by
    rw[ZpR hh,hb,if_neg (by decide)]
    exact ih out (by omega)
   have e1:(List.getD l h (dflt Zb)).1=thA l h:=rfl
   have e2:(List.getD l h (dflt Zb)).2.1=inA l h:=rfl
   have e3:(List.getD l h (dflt Zb)).2.2.1=paA l h:=rfl
   have f1:(List.getD l c (dflt Zb)).1=thA l c:=rfl
   have f2:(List.getD l c (dflt Zb)).2.1=inA l c:=rfl
   have f3:(List.getD l c (dflt Zb)).2.2.1=paA l c:=rfl
   have hbe:behB p l c h=(thA l h==thA l c&&(h==c || ((inA l h==inA l c&&decide (paA l h > paA l c)) || (decide (0≤inA l h)&&fromB t (inA l c) (inA l h).toNat)))):=by
    unfold behB
    rw[decide_eq_true hh,Bool.true_and,ht]
   have hhc:((h:Int)==(c:Int))=(h==c):=by
    by_cases e:h=c
    ·subst e;simp
    ·have:(h==c)=false:=by simpa using e
     rw[this];simp;omega
   rw[Zm,Z6]
   simp only[Zg,Zam hh,nng,Bool.and_self,if_true,Int.toNat_natCast,b1,ZF (k:=h) (by omega),e1,e2,e3,hhas,hhc]
   rw[f1,f2,f3] at*
   generalize hq:(decide (0≤inA l h)&&fromB t (inA l c) (inA l h).toNat)=q at*
   by_cases c1:(thA l h==thA l c)=true
   ·rw[if_pos c1]
    rw[c1,Bool.true_and] at hbe
    by_cases c2:(h==c)=true
    ·rw[if_pos c2]
     rw[c2,Bool.true_or] at hbe
     exact add hbe
    ·rw[if_neg c2]
     rw[Bool.eq_false_iff.2 c2,Bool.false_or] at hbe
     by_cases c3:(inA l h==inA l c)=true
     ·rw[if_pos c3]
      rw[c3,Bool.true_and] at hbe
      by_cases c4:decide (paA l h > paA l c)=true
      ·rw[if_pos c4]
       rw[c4,Bool.true_or] at hbe
       exact add hbe
      ·rw[if_neg c4]
       rw[Bool.eq_false_iff.2 c4,Bool.false_or] at hbe
       cases q with
       | true=>rw[if_pos rfl];exact add hbe
       | false=>rw[if_neg (by decide)];exact skip hbe
     ·rw[if_neg c3]
      rw[Bool.eq_false_iff.2 c3,Bool.false_and,Bool.false_or] at hbe
      cases q with
      | true=>rw[if_pos rfl];exact add hbe
      | false=>rw[if_neg (by decide)];exact skip hbe
   ·rw[if_neg c1]
    rw[Bool.eq_false_iff.2 c1,Bool.false_and] at hbe
    exact skip hbe
 have first:∀h,h≤L.length→∀(s:Int×List (Int×Int)),SetOK s t.length (fun j=>(L.take h).contains (j:Int))→
   Goes (Z6 p l (c:Int)) (.jmp (.l6 (Int.ofNat L.length) (List.getD l c (dflt Zb)).1 (List.getD l c (dflt Zb)).2.1 (List.getD l c (dflt Zb)).2.2.1 (List.getD l c (dflt Zb)).2.2.2.1 (List.getD l c (dflt Zb)).2.2.2.2.1 (List.getD l c (dflt Zb)).2.2.2.2.2 s.1 L s.2 (h:Int))) (listOf l.length (behB p l c)):=by
  refine down ?_ fun h hh ih=>?_
  ·intro s hs
   rw[Zm,Z6,Zg,if_neg (by simp)]
   have:=second s (hs.congr' fun j=>by
    rw[List.take_length,Bool.eq_iff_iff,List.contains_iff_mem,hmem]
    constructor
    ·rintro ⟨i,_,h1,h2⟩;have:j=i:=by omega
     subst this;exact h1
    ·intro h;exact ⟨j,ZwS h,h,rfl⟩) 0 (Nat.zero_le _) [] (Nat.le_refl _)
   rwa[List.nil_append,ZuU] at this
  ·intro s hs
   obtain ⟨i,hi,_,hie⟩:=(hmem L[h]).1 (List.getElem_mem hh)
   obtain ⟨_,p2⟩:=hs.putO (by omega) hi
   have hp:Zp (s.1,s.2) (i:Int)=putS s (i:Int):=rfl
   rw[Zm,Z6,Zg,if_pos (Zam hh),Zg,if_pos (ZaC hh),Int.toNat_natCast,ZZ hh,hie,hp,ZF (by omega)]
   refine ih _ (p2.congr' fun j=>?_)
   rw[List.take_succ_eq_append_getElem hh,Bool.eq_iff_iff,Bool.or_eq_true,List.contains_iff_mem,List.contains_iff_mem,List.mem_append,List.mem_singleton,hie,beq_iff_eq]
   exact or_congr Iff.rfl (by omega)
 exact first 0 (Nat.zero_le _) (((t.length:Nat):Int),[]) ((SetOK.new t.length).congr' fun j=>by simp)
end Go.Ev
end

section
open Go Go.Ev
namespace Go.Ev
noncomputable section
noncomputable def Zj2:Run:=entG Zba Zec (fun a=>ZbC a.1 a.2.1 a.2.2.1) (fun a=>Zar a.1 a.2.1 a.2.2.1)
theorem Znf:EntOK Go.Proofs.Tryd.prog 15 Zj2:=Zay (tb:=Zfx) (c:=Zd3) Zof (by kernel_rfl) (by kernel_rfl) (by kernel_rfl) (fun a=>by kernel_rfl) fun ⟨p,l,c,_⟩ hk=>Zs (c:=Zd3) (K:=fun v=>(Zec v,tps (toForms Zba (p,l,c,())))) (S:=ZaS p l c) (by kernel_rfl) (Zm1 p l c) (ZnQ p l c) (Zpd p l c hk)
end
end Go.Ev
end

section
open Go Go.Ev
namespace Go.Ev
noncomputable section
def Zcj:Sig:=[(true,Zd),(false,(.int .i64))]
noncomputable def Zin:Tbl:=[(10,ZlM),(12,Zjy),(13,ZjV),(15,Zj2),(14,Zcy),(16,Zfa)]
theorem Zp5:∀p∈Zin,EntOK Go.Proofs.Tryd.prog p.1 p.2:=Zi Znt (Zi Zky (Zi Znj (Zi Znf (Zi Zdi (Zi Zig (ZD))))))
noncomputable def Zf9:Code:=Go.Proofs.Tryd.f6.body.getD .skip
def Zh4:Tb:=[(11,⟨[2,5,7,9,10,11],[]⟩),(17,⟨[2,5,7,9,10,11,54,55,56],[]⟩),(hintK,⟨[],[(1,62)]⟩)]
inductive Zeh where | l11 (l:List (El Zb)) (back:Int) (open_:List Int) (meet:Int) (meet1:Int) (back1:List (Int×Int)) (meet2:Int) (meet3:List (Int×Int)) (gone:Int) (gone1:List (Int×Int)) | l17 (h:Int) (l:List (El Zb)) (h1:List Int) (back:Int) (open_:List Int) (meet:Int) (meet1:Int) (back1:List (Int×Int)) (meet2:Int) (meet3:List (Int×Int)) (h2:Int) (gone:Int) (gone1:List (Int×Int))
def ZbX (p:El Zd) (a:Int):Zeh→JT Zeh (List Int) |.l11 l back open_ meet meet1 back1 meet2 meet3 gone gone1=>.br (decide ((Int.ofNat (List.length open_)) > (0:Int))) (.br (decide ((0:Int) < (Int.ofNat (List.length open_)))) (.br (Nat.ble 1 (List.length open_)) (.br (ZbC p l (List.getD open_ 0 (dflt (.int .i64)))) (.jmp (.l17 (Int.ofNat (List.length (Zar p l (List.getD open_ 0 (dflt (.int .i64)))))) l (Zar p l (List.getD open_ 0 (dflt (.int .i64)))) back (List.drop 1 open_) meet meet1 back1 meet2 meet3 (0:Int) gone gone1)) (.no)) (.no)) (.no)) (.br (Zax (back,back1)) (.leaf (Za1 (back,back1)).1) (.no)) |.l17 h l h1 back open_ meet meet1 back1 meet2 meet3 h2 gone gone1=>.br (decide (h2 < h)) (.br ((decide ((0:Int)≤h2))&&(decide (h2 < (Int.ofNat (List.length h1))))) (.br (Zp (gone,gone1) (List.getD h1 (Int.toNat h2) (dflt (.int .i64)))).1 (.br (Zcz (List.getD h1 (Int.toNat h2) (dflt (.int .i64))) l meet (meet2,meet3) open_ meet1 (back,back1)) (.jmp (.l17 h (Zx (List.getD h1 (Int.toNat h2) (dflt (.int .i64))) l meet (meet2,meet3) open_ meet1 (back,back1)).1 h1 (Zx (List.getD h1 (Int.toNat h2) (dflt (.int .i64))) l meet (meet2,meet3) open_ meet1 (back,back1)).2.2.2.2.2.1 (Zx (List.getD h1 (Int.toNat h2) (dflt (.int .i64))) l meet (meet2,meet3) open_ meet1 (back,back1)).2.2.2.1 (Zx (List.getD h1 (Int.toNat h2) (dflt (.int .i64))) l meet (meet2,meet3) open_ meet1 (back,back1)).2.1 (Zx (List.getD h1 (Int.toNat h2) (dflt (.int .i64))) l meet (meet2,meet3) open_ meet1 (back,back1)).2.2.2.2.1 (Zx (List.getD h1 (Int.toNat h2) (dflt (.int .i64))) l meet (meet2,meet3) open_ meet1 (back,back1)).2.2.2.2.2.2 (Zx (List.getD h1 (Int.toNat h2) (dflt (.int .i64))) l meet (meet2,meet3) open_ meet1 (back,back1)).2.2.1.1 (Zx (List.getD h1 (Int.toNat h2) (dflt (.int .i64))) l meet (meet2,meet3) open_ meet1 (back,back1)).2.2.1.2 (IntKind.i64.wrap (h2+(1:Int))) (Zp (gone,gone1) (List.getD h1 (Int.toNat h2) (dflt (.int .i64)))).2.1 (Zp (gone,gone1) (List.getD h1 (Int.toNat h2) (dflt (.int .i64)))).2.2)) (.no)) (.jmp (.l17 h l h1 back open_ meet meet1 back1 meet2 meet3 (IntKind.i64.wrap (h2+(1:Int))) (Zp (gone,gone1) (List.getD h1 (Int.toNat h2) (dflt (.int .i64)))).2.1 (Zp (gone,gone1) (List.getD h1 (Int.toNat h2) (dflt (.int .i64)))).2.2))) (.no)) (.jmp (.l11 l back open_ meet meet1 back1 meet2 meet3 gone gone1))
def Zhs (p:El Zd) (a:Int):JT Zeh (List Int):=.br (Ze3 p) (.br (decide (a < (0:Int))) (.leaf []) (.br (decide (a≥(Int.ofNat (List.length (Zk p))))) (.leaf []) (.br ((decide ((0:Int)≤a))&&(decide (a < (Int.ofNat (List.length (Zk p)))))) (.br (Zcz a (Zk p) (List.getD (Zk p) (Int.toNat a) (dflt Zb)).1 (ZA (Int.ofNat (List.length (Zk p)))) [] a (ZA (Int.ofNat (List.length (Zk p))))) (.jmp (.l11 (Zx a (Zk p) (List.getD (Zk p) (Int.toNat a) (dflt Zb)).1 (ZA (Int.ofNat (List.length (Zk p)))) [] a (ZA (Int.ofNat (List.length (Zk p))))).1 (Zx a (Zk p) (List.getD (Zk p) (Int.toNat a) (dflt Zb)).1 (ZA (Int.ofNat (List.length (Zk p)))) [] a (ZA (Int.ofNat (List.length (Zk p))))).2.2.2.2.2.1 (Zx a (Zk p) (List.getD (Zk p) (Int.toNat a) (dflt Zb)).1 (ZA (Int.ofNat (List.length (Zk p)))) [] a (ZA (Int.ofNat (List.length (Zk p))))).2.2.2.1 (Zx a (Zk p) (List.getD (Zk p) (Int.toNat a) (dflt Zb)).1 (ZA (Int.ofNat (List.length (Zk p)))) [] a (ZA (Int.ofNat (List.length (Zk p))))).2.1 (Zx a (Zk p) (List.getD (Zk p) (Int.toNat a) (dflt Zb)).1 (ZA (Int.ofNat (List.length (Zk p)))) [] a (ZA (Int.ofNat (List.length (Zk p))))).2.2.2.2.1 (Zx a (Zk p) (List.getD (Zk p) (Int.toNat a) (dflt Zb)).1 (ZA (Int.ofNat (List.length (Zk p)))) [] a (ZA (Int.ofNat (List.length (Zk p))))).2.2.2.2.2.2 (Zx a (Zk p) (List.getD (Zk p) (Int.toNat a) (dflt Zb)).1 (ZA (Int.ofNat (List.length (Zk p)))) [] a (ZA (Int.ofNat (List.length (Zk p))))).2.2.1.1 (Zx a (Zk p) (List.getD (Zk p) (Int.toNat a) (dflt Zb)).1 (ZA (Int.ofNat (List.length (Zk p)))) [] a (ZA (Int.ofNat (List.length (Zk p))))).2.2.1.2 (ZA (Int.ofNat (List.length (Zk p)))).1 (ZA (Int.ofNat (List.length (Zk p)))).2)) (.no)) (.no)))) (.no)
def ZfV:List Int→AV:=fun (r:List Int)=>.rw 3 (.int .i64) r
def ZbT (p:El Zd) (a:Int):Zeh→Nat×St |.l11 l back open_ meet meet1 back1 meet2 meet3 gone gone1=>(11,⟨mkTm 69 [(2,.pt 3 0 0),(5,.pt 6 0 0),(7,.pt 8 0 0),(9,.pt 10 0 0),(10,.pt 11 0 0),(11,.fn 13 [.pt 6 0 0,.pt 12290 0 0,.pt 12291 0 0,.pt 11 0 0,.pt 12293 0 0,.pt 8 0 0])],[(3,0,.box 27 [.d (.sl ZH) p.1,.d (.sl (.sl Za)) p.2] none),(6,0,.box 50 [.d (.sl Zb) l] none),(8,0,.box 56 [.pt 8193 0 0] none),(10,0,.box 76 [.d (.int .i64) gone,.mp 10242 0] none),(11,0,.box 31 [.own 11265 0 none] none),(8193,0,.box 76 [.d (.int .i64) back,.mp 8389634 0] none),(10242,0,.map (.int .i64) (.int .u64) gone1),(11265,0,.row 3 (.int .i64) open_ false),(12290,0,.box 3 [.d (.int .i64) meet] none),(12291,0,.box 56 [.pt 12585985 0 0] none),(12293,0,.box 3 [.d (.int .i64) meet1] none),(8389634,0,.map (.int .i64) (.int .u64) back1),(12585985,0,.box 76 [.d (.int .i64) meet2,.mp 12888048642 0] none),(12888048642,0,.map (.int .i64) (.int .u64) meet3)]⟩) |.l17 h l h1 back open_ meet meet1 back1 meet2 meet3 h2 gone gone1=>(17,⟨mkTm 69 [(2,.pt 3 0 0),(5,.pt 6 0 0),(7,.pt 8 0 0),(9,.pt 10 0 0),(10,.pt 11 0 0),(11,.fn 13 [.pt 6 0 0,.pt 12290 0 0,.pt 12291 0 0,.pt 11 0 0,.pt 12293 0 0,.pt 8 0 0]),(54,.own 55 0 none),(55,.d (.int .i64) h),(56,.d (.int .i64) h2)],[(3,0,.box 27 [.d (.sl ZH) p.1,.d (.sl (.sl Za)) p.2] none),(6,0,.box 50 [.d (.sl Zb) l] none),(8,0,.box 56 [.pt 8193 0 0] none),(10,0,.box 76 [.d (.int .i64) gone,.mp 10242 0] none),(11,0,.box 31 [.own 11265 0 none] none),(55,0,.row 3 (.int .i64) h1 false),(8193,0,.box 76 [.d (.int .i64) back,.mp 8389634 0] none),(10242,0,.map (.int .i64) (.int .u64) gone1),(11265,0,.row 3 (.int .i64) open_ false),(12290,0,.box 3 [.d (.int .i64) meet] none),(12291,0,.box 56 [.pt 12585985 0 0] none),(12293,0,.box 3 [.d (.int .i64) meet1] none),(8389634,0,.map (.int .i64) (.int .u64) back1),(12585985,0,.box 76 [.d (.int .i64) meet2,.mp 12888048642 0] none),(12888048642,0,.map (.int .i64) (.int .u64) meet3)]⟩)
theorem Zqb (p:El Zd) (a:Int) (L:Lt):entryA Go.Proofs.Tryd.prog (clOf Zin) Zh4 Go.Proofs.Tryd.f6 Zf9 L (toForms Zcj (p,a,()))=(Zhs p a).run (fun v=>some (ZfV v,tps (toForms Zcj (p,a,())))) fun j=>L (ZbT p a j).1 (ZbT p a j).2:=by kernel_rfl
theorem ZqW (p:El Zd) (a:Int):∀(L:Lt) (j:Zeh),procOf (procsF Go.Proofs.Tryd.prog (clOf Zin) Zh4 Go.Proofs.Tryd.f6 Zf9 (toForms Zcj (p,a,()))) (ZbT p a j).1 L (ZbT p a j).2=(ZbX p a j).run (fun v=>some (ZfV v,tps (toForms Zcj (p,a,())))) fun j=>L (ZbT p a j).1 (ZbT p a j).2 | L,.l11 l back open_ meet meet1 back1 meet2 meet3 gone gone1=>by kernel_rfl | L,.l17 h l h1 back open_ meet meet1 back1 meet2 meet3 h2 gone gone1=>by kernel_rfl
end
end Go.Ev
end

section
namespace Go.Ev
open Go
theorem ZrP {t:Nat} {a:El Zb} :∀ {l:List (El Za)} {k:Nat},a∈accT t k l↔∃(j:Nat) (i:El Za),l[j]? =some i∧a∈accI t (k+j) i
 | [],k=>by simp[accT]
 | i :: r,k=>by
  unfold accT
  rw[List.mem_append,ZrP (l:=r)]
  constructor
  ·rintro (h | ⟨j,i',h1,h2⟩)
   ·exact ⟨0,i,rfl,h⟩
   ·exact ⟨j+1,i',by simpa using h1,by rw[show k+(j+1)=k+1+j by omega];exact h2⟩
  ·rintro ⟨j,i',h1,h2⟩
   cases j with
   | zero=>left;simp at h1;subst h1;exact h2
   | succ j=>right;exact ⟨j,i',by simpa using h1,by rw[show k+1+j=k+(j+1) by omega];exact h2⟩
theorem ZsI {t k:Nat} {i:El Za} {a:El Zb} :a∈accI t k i↔((Zac i).2=true∧a=((t:Int),((k:Int),((0:Int),((Zac i).1.2.2.1,(false,Zal i))))))∨((Z0 i).2=true∧a=((t:Int),((k:Int),((if (Zac i).2 then (1:Int) else 0),((Z0 i).1.2.2.1,(true,Zal i)))))):=by
 unfold accI
 rw[List.mem_append]
 cases (Zac i).2 <;> cases (Z0 i).2 <;> simp
theorem ZuF {t k:Nat} {i:El Za} {a:El Zb} (h:a∈accI t k i):(show Int from a.1)=(t:Int)∧(show Int from a.2.1)=(k:Int):=by
 rcases ZsI.1 h with ⟨_,rfl⟩ | ⟨_,rfl⟩ <;> exact ⟨rfl,rfl⟩
theorem Zsv {a:El Zb} :∀ {l:List (List (El Za))} {t:Nat},a∈accP t l↔∃(u:Nat) (x:List (El Za)) (j:Nat) (i:El Za),l[u]? =some x∧x[j]? =some i∧a∈accI (t+u) j i
 | [],t=>by simp[accP]
 | x :: r,t=>by
  unfold accP
  rw[List.mem_append,ZrP,Zsv (l:=r)]
  constructor
  ·rintro (⟨j,i,h1,h2⟩ | ⟨u,y,j,i,h1,h2,h3⟩)
   ·exact ⟨0,x,j,i,rfl,h1,by rw[Nat.zero_add] at h2;exact h2⟩
   ·exact ⟨u+1,y,j,i,by simpa using h1,h2,by rw[show t+(u+1)=t+1+u by omega];exact h3⟩
  ·rintro ⟨u,y,j,i,h1,h2,h3⟩
   cases u with
   | zero=>
    left
    simp at h1
    subst h1
    exact ⟨j,i,h2,by rw[Nat.zero_add];exact h3⟩
   | succ u=>right;exact ⟨u,y,j,i,by simpa using h1,h2,by rw[show t+1+u=t+(u+1) by omega];exact h3⟩
theorem ZnU {p:El Zd} {a:El Zb} (h:a∈ofC p):∃(u:Nat) (x:List (El Za)) (j:Nat) (i:El Za),p.2[u]? =some x∧x[j]? =some i∧a∈accI u j i∧(show Int from a.1)=(u:Int)∧(show Int from a.2.1)=(j:Int):=by
 unfold ofC at h
 split at h
 ·obtain ⟨u,x,j,i,h1,h2,h3⟩:=Zsv.1 h
  rw[Nat.zero_add] at h3
  exact ⟨u,x,j,i,h1,h2,h3,(ZuF h3).1,(ZuF h3).2⟩
 ·cases h
theorem ZpG {t:List (El Za)} (h:smallThread t=true):flowOK t=true:=by
 have labs:∀ {t:List (El Za)} {i:El Za},i∈t→i.2.2.2.2.2.2.length≤(labels t).length:=fun {t i} hi=>by
  unfold labels
  induction t with
  | nil=>cases hi
  | cons x r ih=>
   rw[List.flatMap_cons,List.length_append]
   rcases List.mem_cons.1 hi with rfl | hi
   ·omega
   ·have:=ih hi;omega
 unfold smallThread at h
 simp only[Bool.and_eq_true,List.all_eq_true,decide_eq_true_eq] at h
 unfold flowOK
 simp only[Bool.and_eq_true,List.all_eq_true,decide_eq_true_eq]
 refine ⟨h.1,fun i hi=>⟨(h.2.2 i hi).1,?_⟩⟩
 have:=labs hi
 omega
end Go.Ev
end

section
open Go
namespace Go.Ev
noncomputable def Zv (p:El Zd) (a:Int):List Int:=if 0≤a∧a < ((ofC p).length:Int) then listOf (ofC p).length (backB p (ofC p) a.toNat) else []
def ZQ (p:El Zd) (a:Int):Bool:=smallAll p
theorem ZqX {l:List Acc} {x:Nat} {own a:Int} :∀(n h:Nat) (s:SetT×List Int×SetT) (C B:Nat→Bool),l.length < 1099511627776→h+n≤l.length→SetOK s.1 l.length C→SetOK s.2.2 l.length B→
  ∃C' B',SetOK (meetF l (x:Int) own a (List.range' h n) s).1 l.length C'∧SetOK (meetF l (x:Int) own a (List.range' h n) s).2.2 l.length B'∧
   (∀j,C' j=true↔C j=true∨(h≤j∧j < h+n∧clB l x j=true∧thA l j≠own))∧(∀j,B' j=true↔B j=true∨(h≤j∧j < h+n∧clB l x j=true∧thA l j=own∧(x:Int)≠a))∧
   (∀y∈s.2.1,y∈(meetF l (x:Int) own a (List.range' h n) s).2.1)∧(∀y∈(meetF l (x:Int) own a (List.range' h n) s).2.1,y∈s.2.1∨∃j:Nat,y=(j:Int)∧C' j=true)∧
   (∀j,C' j=true→C j=true∨(j:Int)∈(meetF l (x:Int) own a (List.range' h n) s).2.1)∧(meetF l (x:Int) own a (List.range' h n) s).2.1.length+card l.length C=s.2.1.length+card l.length C'
 | 0,h,s,C,B,_,_,hC,hB=>⟨C,B,hC,hB,fun j=>⟨.inl,fun h=>h.elim id fun h=>by omega⟩,fun j=>⟨.inl,fun h=>h.elim id fun h=>by omega⟩,fun y hy=>hy,fun y hy=>.inl hy,fun j hj=>.inl hj,rfl⟩
 | n+1,h,s,C,B,hN,hn,hC,hB=>by
  rw[List.range'_succ,meetF]
  have hh:h < l.length:=by omega
  have one:∃C1 B1,SetOK (meet1 l (x:Int) own a h s).1 l.length C1∧SetOK (meet1 l (x:Int) own a h s).2.2 l.length B1∧(∀j,C1 j=true↔C j=true∨(j=h∧clB l x h=true∧thA l h≠own))∧(∀j,B1 j=true↔B j=true∨(j=h∧clB l x h=true∧thA l h=own∧(x:Int)≠a))∧
    (∀y∈s.2.1,y∈(meet1 l (x:Int) own a h s).2.1)∧(∀y∈(meet1 l (x:Int) own a h s).2.1,y∈s.2.1∨∃j:Nat,y=(j:Int)∧C1 j=true)∧(∀j,C1 j=true→C j=true∨(j:Int)∈(meet1 l (x:Int) own a h s).2.1)∧
    (meet1 l (x:Int) own a h s).2.1.length+card l.length C=s.2.1.length+card l.length C1:=by
   unfold meet1
   rw[Int.toNat_natCast]
   by_cases c1:clB l x h=true
   ·rw[if_pos c1]
    by_cases c2:thA l h=own
    ·rw[if_neg (by simp[c2])]
     by_cases c3:(x:Int)=a
     ·rw[if_neg (by simp[c3])]
      exact ⟨C,B,hC,hB,fun j=>⟨.inl,fun h=>h.elim id fun h=>absurd c2 h.2.2⟩,fun j=>⟨.inl,fun h=>h.elim id fun h=>absurd c3 h.2.2.2⟩,fun y hy=>hy,fun y hy=>.inl hy,fun j hj=>.inl hj,rfl⟩
     ·rw[if_pos c3]
      obtain ⟨_,p2⟩:=hB.putO (by omega) hh
      refine ⟨C,_,hC,p2,fun j=>⟨.inl,fun h=>h.elim id fun h=>absurd c2 h.2.2⟩,fun j=>?_,fun y hy=>hy,fun y hy=>.inl hy,fun j hj=>.inl hj,rfl⟩
      rw[Bool.or_eq_true,beq_iff_eq]
      exact or_congr Iff.rfl ⟨fun h=>⟨h,c1,c2,c3⟩,fun h=>h.1⟩
    ·rw[if_pos c2]
     obtain ⟨p1,p2⟩:=hC.putO (by omega) hh
     have hB':∀j,B j=true↔B j=true∨(j=h∧clB l x h=true∧thA l h=own∧(x:Int)≠a):=fun j=>⟨.inl,fun h=>h.elim id fun h=>absurd h.2.2.1 c2⟩
     have hC':∀j,(C j || (j==h))=true↔C j=true∨(j=h∧clB l x h=true∧thA l h≠own):=fun j=>by
      rw[Bool.or_eq_true,beq_iff_eq]
      exact or_congr Iff.rfl ⟨fun h=>⟨h,c1,c2⟩,fun h=>h.1⟩
     refine ⟨_,B,p2,hB,hC',hB',?_⟩
     cases hCh:C h with
     | true=>
      rw[hCh] at p1
      rw[if_neg (by rw[p1];decide)]
      have e:(fun k=>C k || (k==h))=C:=funext fun k=>by
       by_cases hk:k=h
       ·subst hk;rw[hCh];rfl
       ·have:(k==h)=false:=by simpa using hk
        rw[this,Bool.or_false]
      refine ⟨fun y hy=>hy,fun y hy=>.inl hy,fun j hj=>.inl ?_,by rw[e]⟩
      have:=congrFun e j
      rw[←this];exact hj
     | false=>
      rw[hCh] at p1
      rw[if_pos (by rw[p1];rfl)]
      refine ⟨fun y hy=>List.mem_append_left _ hy,fun y hy=>?_,fun j hj=>?_,?_⟩
      ·rcases List.mem_append.1 hy with hy | hy
       ·exact .inl hy
       ·simp only[List.mem_singleton] at hy
        exact .inr ⟨h,hy,by simp⟩
      ·rw[Bool.or_eq_true,beq_iff_eq] at hj
       rcases hj with hj | rfl
       ·exact .inl hj
       ·exact .inr (List.mem_append_right _ (by simp))
      ·rw[ZmK hCh hh,List.length_append,List.length_singleton]
       omega
   ·rw[if_neg c1]
    exact ⟨C,B,hC,hB,fun j=>⟨.inl,fun h=>h.elim id fun h=>absurd h.2.1 c1⟩,fun j=>⟨.inl,fun h=>h.elim id fun h=>absurd h.2.1 c1⟩,fun y hy=>hy,fun y hy=>.inl hy,fun j hj=>.inl hj,rfl⟩
  obtain ⟨C1,B1,a1,a2,a3,a4,a5,a6,a7,a8⟩:=one
  obtain ⟨C2,B2,b1,b2,b3,b4,b5,b6,b7,b8⟩:=ZqX n (h+1) (meet1 l (x:Int) own a h s) C1 B1 hN (by omega) a1 a2
  refine ⟨C2,B2,b1,b2,fun j=>?_,fun j=>?_,fun y hy=>b5 y (a5 y hy),fun y hy=>?_,fun j hj=>?_,by omega⟩
  ·rw[b3,a3,or_assoc]
   refine or_congr Iff.rfl ⟨?_,?_⟩
   ·rintro (⟨rfl,h1⟩ | ⟨h1,h2,h3⟩)
    ·exact ⟨Nat.le_refl _,by omega,h1⟩
    ·exact ⟨by omega,by omega,h3⟩
   ·rintro ⟨h1,h2,h3⟩
    by_cases e:j=h
    ·subst e;exact .inl ⟨rfl,h3⟩
    ·exact .inr ⟨by omega,by omega,h3⟩
  ·rw[b4,a4,or_assoc]
   refine or_congr Iff.rfl ⟨?_,?_⟩
   ·rintro (⟨rfl,h1⟩ | ⟨h1,h2,h3⟩)
    ·exact ⟨Nat.le_refl _,by omega,h1⟩
    ·exact ⟨by omega,by omega,h3⟩
   ·rintro ⟨h1,h2,h3⟩
    by_cases e:j=h
    ·subst e;exact .inl ⟨rfl,h3⟩
    ·exact .inr ⟨by omega,by omega,h3⟩
  ·rcases b6 y hy with h1 | h1
   ·rcases a6 y h1 with h2 | ⟨j,h2,h3⟩
    ·exact .inl h2
    ·exact .inr ⟨j,h2,(b3 j).2 (.inl h3)⟩
   ·exact .inr h1
  ·rcases b7 j hj with h1 | h1
   ·rcases a7 j h1 with h2 | h2
    ·exact .inl h2
    ·exact .inr (b5 _ h2)
   ·exact .inr h1
structure BInv (p:El Zd) (l:List Acc) (a:Nat) (C G B:Nat→Bool) (O:List Int):Prop where
 c:∀c,C c=true↔c < l.length∧thA l c≠thA l a∧(clB l a c=true∨∃k,G k=true∧clB l k c=true)
 g:∀d,G d=true→∃c,C c=true∧behB p l c d=true
 o:∀x∈O,∃c:Nat,x=(c:Int)∧C c=true
 b:∀b,B b=true↔b < l.length∧thA l b=thA l a∧∃k,G k=true∧clB l k b=true
 s:∀d,G d=true→isB p l a d=true
theorem BInv.is {p:El Zd} {l:List Acc} {a:Nat} {C G B:Nat→Bool} {O:List Int} (h:BInv p l a C G B O) {c:Nat} (hc:C c=true):isB p l a c=true:=by
 obtain ⟨h1,h2,h3⟩:=(h.c c).1 hc
 rcases h3 with h3 | ⟨k,hk,h3⟩
 ·exact Zcv.2 (.start (by unfold chS;rw[decide_eq_true h1,h3];rfl))
 ·refine Zcv.2 (.step (Zcv.1 (h.s k hk)) ?_)
  unfold chB
  simp only[Bool.and_eq_true,decide_eq_true_eq,Bool.not_eq_true',beq_eq_false_iff_ne,Bool.or_eq_true]
  exact ⟨h1,h2,.inl h3⟩
theorem BInv.meet {p:El Zd} {l:List Acc} {a d:Nat} {C G B C' B':Nat→Bool} {O O':List Int} {c:Nat} (h:BInv p l a C G B O) (hc:C c=true) (hd:behB p l c d=true) (hl:d < l.length)
  (hC:∀j,C' j=true↔C j=true∨(0≤j∧j < 0+l.length∧clB l d j=true∧thA l j≠thA l a)) (hB:∀j,B' j=true↔B j=true∨(0≤j∧j < 0+l.length∧clB l d j=true∧thA l j=thA l a∧(d:Int)≠(a:Int)))
  (hO:∀y∈O',y∈O∨∃j:Nat,y=(j:Int)∧C' j=true):BInv p l a C' (fun k=>G k || (k==d)) B' O':=by
 have hth:=Zwr hd
 have hne:=((h.c c).1 hc).2.1
 have hdis:isB p l a d=true:=by
  refine Zcv.2 (.step (Zcv.1 (h.is hc)) ?_)
  unfold chB
  simp only[Bool.and_eq_true,decide_eq_true_eq,Bool.not_eq_true',beq_eq_false_iff_ne,Bool.or_eq_true]
  exact ⟨hl,by rw[hth.2];exact hne,.inr hd⟩
 have hg:∀k,(G k || (k==d))=true↔G k=true∨k=d:=fun k=>by rw[Bool.or_eq_true,beq_iff_eq]
 refine ⟨fun j=>?_,fun j hj=>?_,fun y hy=>?_,fun j=>?_,fun j hj=>?_⟩
 ·rw[hC,h.c]
  constructor
  ·rintro (⟨h1,h2,h3⟩ | ⟨_,h1,h2,h3⟩)
   ·exact ⟨h1,h2,h3.imp id fun ⟨k,hk,h4⟩=>⟨k,(hg k).2 (.inl hk),h4⟩⟩
   ·exact ⟨by omega,h3,.inr ⟨d,(hg d).2 (.inr rfl),h2⟩⟩
  ·rintro ⟨h1,h2,h3⟩
   rcases h3 with h3 | ⟨k,hk,h3⟩
   ·exact .inl ⟨h1,h2,.inl h3⟩
   ·rcases (hg k).1 hk with hk | rfl
    ·exact .inl ⟨h1,h2,.inr ⟨k,hk,h3⟩⟩
    ·exact .inr ⟨Nat.zero_le _,by omega,h3,h2⟩
 ·rcases (hg j).1 hj with hj | rfl
  ·obtain ⟨c',h1,h2⟩:=h.g j hj
   exact ⟨c',(hC c').2 (.inl h1),h2⟩
  ·exact ⟨c,(hC c).2 (.inl hc),hd⟩
 ·rcases hO y hy with hy | hy
  ·obtain ⟨c',h1,h2⟩:=h.o y hy
   exact ⟨c',h1,(hC c').2 (.inl h2)⟩
  ·exact hy
 ·rw[hB,h.b]
  constructor
  ·rintro (⟨h1,h2,k,hk,h3⟩ | ⟨_,h1,h2,h3,_⟩)
   ·exact ⟨h1,h2,k,(hg k).2 (.inl hk),h3⟩
   ·exact ⟨by omega,h3,d,(hg d).2 (.inr rfl),h2⟩
  ·rintro ⟨h1,h2,k,hk,h3⟩
   rcases (hg k).1 hk with hk | rfl
   ·exact .inl ⟨h1,h2,k,hk,h3⟩
   ·refine .inr ⟨Nat.zero_le _,by omega,h3,h2,fun e=>hne ?_⟩
    have:k=a:=by omega
    subst this
    rw[←hth.2]
 ·rcases (hg j).1 hj with hj | rfl
  ·exact h.s j hj
  ·exact hdis
theorem Zrq (p:El Zd) (a:Int) (hk:ZQ p a=true):Goes (ZbX p a) (Zhs p a) (Zv p a):=by
 have hA:=smallA hk
 have hNl:=ZxL hk
 have kt:Ze3 p=true:=hk
 have vt:Zk p=ofC p:=rfl
 have hacc:∀c,c < (ofC p).length→0≤thA (ofC p) c∧thA (ofC p) c < (p.2.length:Int)∧flowOK (thrOf p (ofC p) c)=true:=fun c hc=>by
  have hm:accA (ofC p) c∈ofC p:=by unfold accA;rw[ZZ hc];exact List.getElem_mem hc
  obtain ⟨u,x,j,i,h1,h2,h3,h4,h5⟩:=ZnU hm
  have hth:thA (ofC p) c=(u:Int):=h4
  have hu:=(List.getElem?_eq_some_iff.1 h1).1
  have hx:x∈p.2:=List.mem_of_getElem? h1
  refine ⟨by omega,by omega,?_⟩
  unfold thrOf
  rw[hth,Int.toNat_natCast,List.getD_eq_getElem?_getD,h1]
  exact ZpG (hA.thr x hx)
 obtain ⟨l,hl⟩:∃l,ofC p=l:=⟨_,rfl⟩
 rw[hl] at hNl vt hacc
 obtain ⟨T,hT⟩:∃T,T=ZbX p a:=⟨_,rfl⟩
 rw[←hT]
 unfold Zhs Zv
 rw[Zg,if_pos kt,vt,hl,Zg]
 by_cases h0:a < 0
 ·rw[if_pos (decide_eq_true h0),if_neg (by omega)];exact .leaf
 rw[if_neg (by simpa using h0),Zg]
 by_cases h1:a≥Int.ofNat l.length
 ·rw[if_pos (decide_eq_true h1),if_neg (by simp at h1;omega)];exact .leaf
 obtain ⟨a,rfl⟩:=Int.eq_ofNat_of_zero_le (show 0≤a by omega)
 have ha:a < l.length:=by simp at h1;omega
 rw[if_neg (by simpa using h1),Zg,if_pos (ZaC ha),Zg,Int.toNat_natCast]
 have hval:(if (0:Int)≤(a:Int)∧(a:Int) < (l.length:Int) then listOf l.length (backB p l a) else [])=listOf l.length (backB p l a):=if_pos ⟨by omega,by omega⟩
 rw[hval]
 have hown:(List.getD l a (dflt Zb)).1=thA l a:=rfl
 have hnew:ZA (Int.ofNat l.length)=(((l.length:Nat):Int),[]):=by
  unfold ZA
  simp
  omega
 rw[hown,hnew]
 have kb:∀(x:Nat) (come:SetT) (o:List Int) (b:SetT),x < l.length→o.length < 1099511627776→Zcz (x:Int) l (thA l a) come o (a:Int) b=true:=fun x come o b hx ho=>decide_eq_true ⟨by omega,by omega,by omega,ho⟩
 have fin:∀(C G B:Nat→Bool) (sc sg sb:SetT),SetOK sb l.length B→BInv p l a C G B []→
   (∀c,C c=true→(c:Int)∈([]:List Int)∨∀d,behB p l c d=true→G d=true)→Goes T (.jmp (.l11 l sb.1 [] (thA l a) (a:Int) sb.2 sc.1 sc.2 sg.1 sg.2)) (listOf l.length (backB p l a)):=by
  intro C G B sc sg sb hb hi hp
  rw[Zm,hT,ZbX,←hT,Zg,if_neg (by decide)]
  have hkl:Zax (sb.1,sb.2)=true:=Nat.ble_eq_true_of_le (by have:=hb.few;unfold limit;show sb.2.length*512≤_;omega)
  rw[Zg,if_pos hkl]
  have hGi:∀d,G d=isB p l a d:=ZxK hi.c (fun d=>⟨hi.g d,fun ⟨c,h1,h2⟩=>(hp c h1).elim (fun h=>by cases h) fun h=>h d h2⟩) hi.s
  have hv:(Za1 (sb.1,sb.2)).1=listOf l.length (backB p l a):=by
   show listS sb=_
   rw[hb.list (by omega)]
   refine ZiQ fun j hj=>?_
   unfold backB
   rw[Bool.eq_iff_iff,hi.b,Bool.and_eq_true,beq_iff_eq,List.any_eq_true]
   constructor
   ·rintro ⟨_,h2,k,hk,h3⟩
    rw[hGi] at hk
    exact ⟨h2,k,List.mem_range.2 (Zx8 hk).1,by rw[hk,h3];rfl⟩
   ·rintro ⟨h2,k,_,h3⟩
    rw[Bool.and_eq_true] at h3
    exact ⟨hj,h2,k,by rw[hGi];exact h3.1,h3.2⟩
  rw[hv]
  exact .leaf
 have loop:∀m,∀(C G B:Nat→Bool) (sc sg sb:SetT) (O:List Int),2*(l.length - card l.length C)+O.length≤m→O.length≤card l.length C→SetOK sc l.length C→SetOK sg l.length G→SetOK sb l.length B→BInv p l a C G B O→
   (∀c,C c=true→(c:Int)∈O∨∀d,behB p l c d=true→G d=true)→Goes T (.jmp (.l11 l sb.1 O (thA l a) (a:Int) sb.2 sc.1 sc.2 sg.1 sg.2)) (listOf l.length (backB p l a)):=by
  intro m
  induction m with
  | zero=>
   intro C G B sc sg sb O hm hO1 hc hg hb hi hp
   have:O=[]:=List.eq_nil_of_length_eq_zero (by omega)
   subst this
   exact fin C G B sc sg sb hb hi hp
  | succ m ih=>
   intro C G B sc sg sb O hm hO1 hc hg hb hi hp
   cases O with
   | nil=>exact fin C G B sc sg sb hb hi hp
   | cons x O=>
    obtain ⟨c,rfl,hCc⟩:=hi.o x (by simp)
    have hcl:=((hi.c c).1 hCc).1
    have hcard:= @Zhu l.length C
    obtain ⟨q1,q2,q3⟩:=hacc c hcl
    have kbh:ZbC p l (c:Int)=true:=by
     unfold ZbC
     rw[Int.toNat_natCast,q3,decide_eq_true ⟨by omega,by omega,by omega⟩,decide_eq_true ⟨q1,q2⟩];rfl
    have e0:List.getD ((c:Int) :: O) 0 (dflt (.int .i64))=(c:Int):=rfl
    have g1:decide (Int.ofNat ((c:Int) :: O).length > (0:Int))=true:=decide_eq_true (by simp <;> omega)
    have g2:decide ((0:Int) < Int.ofNat ((c:Int) :: O).length)=true:=decide_eq_true (by simp <;> omega)
    have g3:Nat.ble 1 ((c:Int) :: O).length=true:=Nat.ble_eq_true_of_le (by simp)
    rw[Zm,hT,ZbX,←hT,Zg,if_pos g1,Zg,if_pos g2,Zg,if_pos g3,e0,Zg,if_pos kbh]
    obtain ⟨L,hL⟩:∃L,Zar p l (c:Int)=L:=⟨_,rfl⟩
    have hLm:∀y,y∈L↔∃d:Nat,d < l.length∧behB p l c d=true∧y=(d:Int):=fun y=>by rw[←hL];unfold Zar;rw[Int.toNat_natCast];exact Zc8
    have hLl:L.length≤l.length:=by rw[←hL];unfold Zar;rw[Zlj];exact Zhu
    rw[hL,show List.drop 1 ((c:Int) :: O)=O from rfl]
    have inner:∀h,h≤L.length→∀(C G B:Nat→Bool) (sc sg sb:SetT) (O:List Int),2*(l.length - card l.length C)+O.length≤m→O.length≤card l.length C→SetOK sc l.length C→SetOK sg l.length G→SetOK sb l.length B→BInv p l a C G B O→C c=true→
      (∀c',C c'=true→c'≠c→(c':Int)∈O∨∀d,behB p l c' d=true→G d=true)→(∀d,behB p l c d=true→G d=true∨(d:Int)∈L.drop h)→
      Goes T (.jmp (.l17 (Int.ofNat L.length) l L sb.1 O (thA l a) (a:Int) sb.2 sc.1 sc.2 (h:Int) sg.1 sg.2)) (listOf l.length (backB p l a)):=by
     refine down ?_ fun h hh ih2=>?_
     ·intro C G B sc sg sb O hm hO1 hc hg hb hi hCc hp hcur
      rw[Zm,hT,ZbX,←hT,Zg,if_neg (by simp)]
      refine ih C G B sc sg sb O hm hO1 hc hg hb hi fun c' hc'=>?_
      by_cases e:c'=c
      ·subst e
       right
       intro d hd
       rcases hcur d hd with h1 | h1
       ·exact h1
       ·rw[List.drop_length] at h1;cases h1
      ·exact hp c' hc' e
     ·intro C G B sc sg sb O hm hO1 hc hg hb hi hCc hp hcur
      obtain ⟨d,hd,hbd,hde⟩:=(hLm L[h]).1 (List.getElem_mem hh)
      have hcard:= @Zhu l.length C
      obtain ⟨p1,p2⟩:=hg.putO (by omega) hd
      have hput:Zp (sg.1,sg.2) (d:Int)=putS sg (d:Int):=rfl
      have hkb:=kb d (sc.1,sc.2) O (sb.1,sb.2) hd (by omega)
      rw[Zm,hT,ZbX,←hT,Zg,if_pos (Zam hh),Zg,if_pos (ZaC hh),Int.toNat_natCast,ZZ hh,hde,hput,ZF (by omega),Zg]
      have hdrop:=ZT hh
      cases hGd:G d with
      | true=>
       rw[hGd] at p1
       rw[if_neg (by rw[p1];decide)]
       have e:∀k,(G k || (k==d))=G k:=fun k=>by
        by_cases hk:k=d
        ·subst hk;rw[hGd];rfl
        ·have:(k==d)=false:=by simpa using hk
         rw[this,Bool.or_false]
       refine ih2 C G B sc _ sb O hm hO1 hc (p2.congr' e) hb hi hCc hp fun d' hd'=>?_
       rcases hcur d' hd' with h1 | h1
       ·exact .inl h1
       ·rw[hdrop] at h1
        rcases List.mem_cons.1 h1 with h1 | h1
        ·rw[hde] at h1
         have:d'=d:=by omega
         subst this
         exact .inl hGd
        ·exact .inr h1
      | false=>
       rw[hGd] at p1
       rw[if_pos (by rw[p1];rfl),Zg,if_pos hkb]
       obtain ⟨C',B',b1,b2,b3,b4,b5,b6,b7,b8⟩:=ZqX (l:=l) (x:=d) (own:=thA l a) (a:=(a:Int)) l.length 0 (sc,O,sb) C B (by omega) (by omega) hc hb
       have hv:Zx (d:Int) l (thA l a) (sc.1,sc.2) O (a:Int) (sb.1,sb.2)=(l,thA l a,(meetF l (d:Int) (thA l a) (a:Int) (List.range' 0 l.length) (sc,O,sb)).1,(meetF l (d:Int) (thA l a) (a:Int) (List.range' 0 l.length) (sc,O,sb)).2.1,(a:Int),(meetF l (d:Int) (thA l a) (a:Int) (List.range' 0 l.length) (sc,O,sb)).2.2):=rfl
       rw[hv]
       generalize meetF l (d:Int) (thA l a) (a:Int) (List.range' 0 l.length) (sc,O,sb)=R at*
       have hi':=hi.meet (O':=R.2.1) hCc hbd hd b3 b4 b6
       have hcl2:= @Zhu l.length C'
       simp only at b5 b6 b7 b8
       have b8':R.2.1.length+card l.length C=O.length+card l.length C':=b8
       have hcm:card l.length C≤card l.length C':=Zsh fun j h=>(b3 j).2 (.inl h)
       have m1:2*(l.length - card l.length C')+R.2.1.length≤m:=by omega
       have m2:R.2.1.length≤card l.length C':=by omega
       refine ih2 C' _ B' R.1 _ R.2.2 R.2.1 m1 m2 b1 p2 b2 hi' ((b3 c).2 (.inl hCc)) (fun c' hc' hne=>?_) fun d' hd'=>?_
       ·rcases b7 c' hc' with h1 | h1
        ·rcases hp c' h1 hne with h2 | h2
         ·exact .inl (b5 _ h2)
         ·exact .inr fun d'' hd''=>by rw[h2 d'' hd''];rfl
        ·exact .inl h1
       ·rcases hcur d' hd' with h1 | h1
        ·left;rw[h1];rfl
        ·rw[hdrop] at h1
         rcases List.mem_cons.1 h1 with h1 | h1
         ·rw[hde] at h1
          have:d'=d:=by omega
          subst this
          left;simp
         ·exact .inr h1
    refine inner 0 (Nat.zero_le _) C G B sc sg sb O (by simp at hm;omega) (by simp at hO1;omega) hc hg hb ⟨hi.c,hi.g,fun y hy=>hi.o y (List.mem_cons_of_mem _ hy),hi.b,hi.s⟩ hCc (fun c' hc' hne=>?_) fun d hd=>?_
    ·rcases hp c' hc' with h1 | h1
     ·rcases List.mem_cons.1 h1 with h1 | h1
      ·exact absurd (by omega) hne
      ·exact .inl h1
     ·exact .inr h1
    ·exact .inr (by rw[List.drop_zero];exact (hLm _).2 ⟨d,(Zwr hd).1,hd,rfl⟩)
 rw[if_pos (kb a _ [] _ ha (by simp))]
 obtain ⟨C',B',b1,b2,b3,b4,b5,b6,b7,b8⟩:=ZqX (l:=l) (x:=a) (own:=thA l a) (a:=(a:Int)) l.length 0 ((((l.length:Nat):Int),[]),[],(((l.length:Nat):Int),[])) (fun _=>false) (fun _=>false) (by omega) (by omega) (SetOK.new _) (SetOK.new _)
 have hv:Zx (a:Int) l (thA l a) (((l.length:Nat):Int),[]) [] (a:Int) (((l.length:Nat):Int),[])=(l,thA l a,(meetF l (a:Int) (thA l a) (a:Int) (List.range' 0 l.length) ((((l.length:Nat):Int),[]),[],(((l.length:Nat):Int),[]))).1,(meetF l (a:Int) (thA l a) (a:Int) (List.range' 0 l.length) ((((l.length:Nat):Int),[]),[],(((l.length:Nat):Int),[]))).2.1,(a:Int),(meetF l (a:Int) (thA l a) (a:Int) (List.range' 0 l.length) ((((l.length:Nat):Int),[]),[],(((l.length:Nat):Int),[]))).2.2):=rfl
 rw[hv]
 generalize meetF l (a:Int) (thA l a) (a:Int) (List.range' 0 l.length) ((((l.length:Nat):Int),[]),[],(((l.length:Nat):Int),[]))=R at*
 simp only at b5 b6 b7 b8
 have hcl2:= @Zhu l.length C'
 have h00:card l.length (fun _=>false)=0:=by unfold card;simp
 rw[h00] at b8
 refine loop _ C' (fun _=>false) B' R.1 (((l.length:Nat):Int),[]) R.2.2 R.2.1 (Nat.le_refl _) (by simp at b8;omega) b1 (SetOK.new _) b2 ⟨fun c=>?_,fun d hd=>(by cases hd),fun y hy=>?_,fun b=>?_,fun d hd=>(by cases hd)⟩ fun c hc=>?_
 ·rw[b3]
  constructor
  ·rintro (h | ⟨_,h1,h2,h3⟩)
   ·cases h
   ·exact ⟨by omega,h3,.inl h2⟩
  ·rintro ⟨h1,h2,h3 | ⟨k,hk,_⟩⟩
   ·exact .inr ⟨Nat.zero_le _,by omega,h3,h2⟩
   ·cases hk
 ·rcases b6 y hy with h | h
  ·cases h
  ·exact h
 ·rw[b4]
  constructor
  ·rintro (h | ⟨_,_,_,_,h⟩)
   ·cases h
   ·exact absurd rfl h
  ·rintro ⟨_,_,k,hk,_⟩
   cases hk
 ·rcases b7 c hc with h | h
  ·cases h
  ·exact .inl h
end Go.Ev
end

section
open Go Go.Ev
namespace Go.Ev
noncomputable section
noncomputable def Zi7:Run:=entG Zcj ZfV (fun a=>ZQ a.1 a.2.1) (fun a=>Zv a.1 a.2.1)
theorem Zln:EntOK Go.Proofs.Tryd.prog 6 Zi7:=Zay (tb:=Zh4) (c:=Zf9) Zp5 (by kernel_rfl) (by kernel_rfl) (by kernel_rfl) (fun a=>by kernel_rfl) fun ⟨p,a,_⟩ hk=>Zs (c:=Zf9) (K:=fun v=>(ZfV v,tps (toForms Zcj (p,a,())))) (S:=ZbT p a) (by kernel_rfl) (Zqb p a) (ZqW p a) (Zrq p a hk)
end
end Go.Ev
end

section
open Go Go.Ev
namespace Go.Ev
noncomputable section
def Zcu:Sig:=[]
noncomputable def ZiI:Tbl:=[]
theorem Zqq:∀p∈ZiI,EntOK Go.Proofs.Tryd.prog p.1 p.2:=ZD
noncomputable def Zgb:Code:=Go.Proofs.Tryd.f17.body.getD .skip
def ZhK:Tb:=[]
def Zl7:Empty→JT Empty (El Zd):=fun j=>nomatch j
def Zlv:JT Empty (El Zd):=.leaf ([((bs [120]),((1:Int),[])),((bs [121]),((1:Int),[]))],[[((1:Int),(false,((0:Int),(((3:Int),((0:Int),((0:Int),(0:Int)))),(((2:Int),((0:Int),((0:Int),(1:Int)))),((bs []),[])))))),((1:Int),(false,((0:Int),(((1:Int),((0:Int),((0:Int),(0:Int)))),(((3:Int),((0:Int),((1:Int),(0:Int)))),((bs []),[])))))),((14:Int),(false,((0:Int),(((0:Int),((0:Int),((0:Int),(0:Int)))),(((0:Int),((0:Int),((0:Int),(0:Int)))),((bs []),[]))))))],[((1:Int),(false,((0:Int),(((3:Int),((0:Int),((1:Int),(0:Int)))),(((2:Int),((0:Int),((0:Int),(1:Int)))),((bs []),[])))))),((1:Int),(false,((0:Int),(((1:Int),((0:Int),((0:Int),(0:Int)))),(((3:Int),((0:Int),((0:Int),(0:Int)))),((bs []),[])))))),((14:Int),(false,((0:Int),(((0:Int),((0:Int),((0:Int),(0:Int)))),(((0:Int),((0:Int),((0:Int),(0:Int)))),((bs []),[]))))))]])
def Zj:El Zd:=([((bs [120]),((1:Int),[])),((bs [121]),((1:Int),[]))],[[((1:Int),(false,((0:Int),(((3:Int),((0:Int),((0:Int),(0:Int)))),(((2:Int),((0:Int),((0:Int),(1:Int)))),((bs []),[])))))),((1:Int),(false,((0:Int),(((1:Int),((0:Int),((0:Int),(0:Int)))),(((3:Int),((0:Int),((1:Int),(0:Int)))),((bs []),[])))))),((14:Int),(false,((0:Int),(((0:Int),((0:Int),((0:Int),(0:Int)))),(((0:Int),((0:Int),((0:Int),(0:Int)))),((bs []),[]))))))],[((1:Int),(false,((0:Int),(((3:Int),((0:Int),((1:Int),(0:Int)))),(((2:Int),((0:Int),((0:Int),(1:Int)))),((bs []),[])))))),((1:Int),(false,((0:Int),(((1:Int),((0:Int),((0:Int),(0:Int)))),(((3:Int),((0:Int),((0:Int),(0:Int)))),((bs []),[])))))),((14:Int),(false,((0:Int),(((0:Int),((0:Int),((0:Int),(0:Int)))),(((0:Int),((0:Int),((0:Int),(0:Int)))),((bs []),[]))))))]])
theorem ZsF:Goes (Zl7) (Zlv) (Zj):=Goes.leaf
def Zga:El Zd→AV:=fun (r:El Zd)=>.ag [.rw 45 ZH r.1,.rw 35 (.sl Za) r.2]
def ZbQ:Empty→Nat×St:=fun j=>nomatch j
theorem ZqM (L:Lt):entryA Go.Proofs.Tryd.prog (clOf ZiI) ZhK Go.Proofs.Tryd.f17 Zgb L (toForms Zcu (()))=(Zlv).run (fun v=>some (Zga v,tps (toForms Zcu (())))) fun j=>L (ZbQ j).1 (ZbQ j).2:=by kernel_rfl
theorem ZqU:∀(L:Lt) (j:Empty),procOf (procsF Go.Proofs.Tryd.prog (clOf ZiI) ZhK Go.Proofs.Tryd.f17 Zgb (toForms Zcu (()))) (ZbQ j).1 L (ZbQ j).2=(Zl7 j).run (fun v=>some (Zga v,tps (toForms Zcu (())))) fun j=>L (ZbQ j).1 (ZbQ j).2:=fun L j=>nomatch j
noncomputable def ZlZ:Run:=entT Zcu Zga (fun a=>Zj)
theorem Zrk:EntOK Go.Proofs.Tryd.prog 17 ZlZ:=Zan (tb:=ZhK) (c:=Zgb) Zqq (by kernel_rfl) (by kernel_rfl) (by kernel_rfl) (fun a=>by kernel_rfl) fun _=>Zs (c:=Zgb) (K:=fun v=>(Zga v,tps (toForms Zcu (())))) (S:=ZbQ) (by kernel_rfl) (ZqM) (ZqU) (ZsF)
end
end Go.Ev
end

section
open Go Go.Ev
namespace Go.Ev
noncomputable section
def ZaF:Sig:=[(false,(.sl Zn)),(false,(.sl Zn))]
noncomputable def ZfJ:Tbl:=[]
theorem Zmz:∀p∈ZfJ,EntOK Go.Proofs.Tryd.prog p.1 p.2:=ZD
noncomputable def Zds:Code:=Go.Proofs.Tryd.f18.body.getD .skip
def Zew:Tb:=[(6,⟨[0,1,5],[]⟩)]
inductive Zb5 where | l6 (i:Int)
def ZbO (a:List (El Zn)) (b:List (El Zn)):Zb5→JT Zb5 (Bool) |.l6 i=>.br (decide (i < (Int.ofNat (List.length a)))) (.br ((decide ((0:Int)≤i))&&(decide (i < (Int.ofNat (List.length a))))) (.br ((decide ((0:Int)≤i))&&(decide (i < (Int.ofNat (List.length b))))) (.br (! (((List.getD a (Int.toNat i) (dflt Zn)).1==(List.getD b (Int.toNat i) (dflt Zn)).1)&&((List.getD a (Int.toNat i) (dflt Zn)).2==(List.getD b (Int.toNat i) (dflt Zn)).2))) (.leaf false) (.jmp (.l6 (IntKind.i64.wrap (i+(1:Int)))))) (.no)) (.no)) (.leaf true)
def Zer (a:List (El Zn)) (b:List (El Zn)):JT Zb5 (Bool):=.br ((Int.ofNat (List.length a)) !=(Int.ofNat (List.length b))) (.leaf false) (.jmp (.l6 (0:Int)))
def Zdf:Bool→AV:=fun (r:Bool)=>.d .bool r
def Zaw (a:List (El Zn)) (b:List (El Zn)):Zb5→Nat×St |.l6 i=>(6,⟨mkTm 26 [(0,.d (.sl Zn) a),(1,.d (.sl Zn) b),(5,.d (.int .i64) i)],[]⟩)
theorem ZmD (a:List (El Zn)) (b:List (El Zn)) (L:Lt):entryA Go.Proofs.Tryd.prog (clOf ZfJ) Zew Go.Proofs.Tryd.f18 Zds L (toForms ZaF (a,b,()))=(Zer a b).run (fun v=>some (Zdf v,tps (toForms ZaF (a,b,())))) fun j=>L (Zaw a b j).1 (Zaw a b j).2:=by kernel_rfl
theorem Zms (a:List (El Zn)) (b:List (El Zn)):∀(L:Lt) (j:Zb5),procOf (procsF Go.Proofs.Tryd.prog (clOf ZfJ) Zew Go.Proofs.Tryd.f18 Zds (toForms ZaF (a,b,()))) (Zaw a b j).1 L (Zaw a b j).2=(ZbO a b j).run (fun v=>some (Zdf v,tps (toForms ZaF (a,b,())))) fun j=>L (Zaw a b j).1 (Zaw a b j).2 | L,.l6 i=>by kernel_rfl
end
end Go.Ev
end

section
open Go
namespace Go.Ev
theorem Zvu {a b:El Zn} :(a.1==b.1&&a.2==b.2)=decide (a=b):=by
 obtain ⟨a1,a2⟩:=a
 obtain ⟨b1,b2⟩:=b
 rw[Bool.eq_iff_iff]
 simp
def Zbb (a b:List (El Zn)):Bool:=decide (a=b)
def Zb1 (a b:List (El Zn)):Bool:=decide (a.length < 4611686018427387904)
theorem Znh (a b:List (El Zn)) (hk:Zb1 a b=true):Goes (ZbO a b) (Zer a b) (Zbb a b):=by
 have hn:a.length < 4611686018427387904:=of_decide_eq_true hk
 have loop:a.length=b.length→∀k,k≤a.length→Goes (ZbO a b) (.jmp (.l6 (k:Int))) (decide (a.drop k=b.drop k)):=by
  intro he
  refine down ?_ fun k hk ih=>?_
  ·rw[Zm]
   simp[ZbO,Zg,ZY,he]
  ·rw[Zm]
   have hkb:k < b.length:=he▸hk
   simp only[ZbO,Zg,Zam hk,Zam hkb,nng,Bool.and_self,if_true,Int.toNat_natCast,ZZ hk,ZZ hkb,ZF (k:=k) (by omega)]
   rw[ZT hk,ZT hkb]
   split
   ·rename_i h1
    have h2:(! decide (a[k]=b[k]))=true:=(congrArg Bool.not Zvu).symm.trans h1
    have h3:¬a[k]=b[k]:=by simpa using h2
    rw[decide_eq_false (fun e=>h3 (List.cons.inj e).1)]
    exact .leaf
   ·rename_i h1
    have h2:¬(! decide (a[k]=b[k]))=true:=fun h=>h1 ((congrArg Bool.not Zvu).trans h)
    have h3:a[k]=b[k]:=by simpa using h2
    rw[show decide (a[k] :: List.drop (k+1) a=b[k] :: List.drop (k+1) b)=decide (List.drop (k+1) a=List.drop (k+1) b) from decide_eq_decide.2 ⟨fun e=>(List.cons.inj e).2,fun e=>by rw[h3,e]⟩]
    exact ih
 unfold Zer Zbb
 rw[Zg]
 by_cases h:a.length=b.length
 ·have:=loop h 0 (Nat.zero_le _)
  simpa[h] using this
 ·have:a≠b:=fun e=>h (congrArg _ e)
  rw[if_pos (by simp;omega),decide_eq_false this]
  exact .leaf
end Go.Ev
end

section
open Go Go.Ev
namespace Go.Ev
noncomputable section
noncomputable def ZiO:Run:=entG ZaF Zdf (fun a=>Zb1 a.1 a.2.1) (fun a=>Zbb a.1 a.2.1)
theorem ZmH:EntOK Go.Proofs.Tryd.prog 18 ZiO:=Zay (tb:=Zew) (c:=Zds) Zmz (by kernel_rfl) (by kernel_rfl) (by kernel_rfl) (fun a=>by kernel_rfl) fun ⟨a,b,_⟩ hk=>Zs (c:=Zds) (K:=fun v=>(Zdf v,tps (toForms ZaF (a,b,())))) (S:=Zaw a b) (by kernel_rfl) (ZmD a b) (Zms a b) (Znh a b hk)
end
end Go.Ev
end

section
open Go Go.Ev
namespace Go.Ev
noncomputable section
def ZaG:Sig:=[(false,(.sl (.int .i64))),(false,(.sl (.int .i64)))]
noncomputable def Zfv:Tbl:=[]
theorem ZmB:∀p∈Zfv,EntOK Go.Proofs.Tryd.prog p.1 p.2:=ZD
noncomputable def Zdv:Code:=Go.Proofs.Tryd.f19.body.getD .skip
def Zeu:Tb:=[(6,⟨[0,1,5],[]⟩)]
inductive Zb7 where | l6 (i:Int)
def Zb6 (a:List Int) (b:List Int):Zb7→JT Zb7 (Bool) |.l6 i=>.br (decide (i < (Int.ofNat (List.length a)))) (.br ((decide ((0:Int)≤i))&&(decide (i < (Int.ofNat (List.length a))))) (.br ((decide ((0:Int)≤i))&&(decide (i < (Int.ofNat (List.length b))))) (.br ((List.getD a (Int.toNat i) (dflt (.int .i64))) !=(List.getD b (Int.toNat i) (dflt (.int .i64)))) (.leaf false) (.jmp (.l6 (IntKind.i64.wrap (i+(1:Int)))))) (.no)) (.no)) (.leaf true)
def Zev (a:List Int) (b:List Int):JT Zb7 (Bool):=.br ((Int.ofNat (List.length a)) !=(Int.ofNat (List.length b))) (.leaf false) (.jmp (.l6 (0:Int)))
def Zdp:Bool→AV:=fun (r:Bool)=>.d .bool r
def ZaB (a:List Int) (b:List Int):Zb7→Nat×St |.l6 i=>(6,⟨mkTm 26 [(0,.d (.sl (.int .i64)) a),(1,.d (.sl (.int .i64)) b),(5,.d (.int .i64) i)],[]⟩)
theorem Zmy (a:List Int) (b:List Int) (L:Lt):entryA Go.Proofs.Tryd.prog (clOf Zfv) Zeu Go.Proofs.Tryd.f19 Zdv L (toForms ZaG (a,b,()))=(Zev a b).run (fun v=>some (Zdp v,tps (toForms ZaG (a,b,())))) fun j=>L (ZaB a b j).1 (ZaB a b j).2:=by kernel_rfl
theorem Zmu (a:List Int) (b:List Int):∀(L:Lt) (j:Zb7),procOf (procsF Go.Proofs.Tryd.prog (clOf Zfv) Zeu Go.Proofs.Tryd.f19 Zdv (toForms ZaG (a,b,()))) (ZaB a b j).1 L (ZaB a b j).2=(Zb6 a b j).run (fun v=>some (Zdp v,tps (toForms ZaG (a,b,())))) fun j=>L (ZaB a b j).1 (ZaB a b j).2 | L,.l6 i=>by kernel_rfl
end
end Go.Ev
end

section
open Go
namespace Go.Ev
theorem ZvS {a b:Int} :(a==b)=decide (a=b):=by rw[Bool.eq_iff_iff];simp
def Z8 (a b:List Int):Bool:=decide (a=b)
def Zak (a b:List Int):Bool:=decide (a.length < 4611686018427387904)
theorem ZnM (a b:List Int) (hk:Zak a b=true):Goes (Zb6 a b) (Zev a b) (Z8 a b):=by
 have hn:a.length < 4611686018427387904:=of_decide_eq_true hk
 have loop:a.length=b.length→∀k,k≤a.length→Goes (Zb6 a b) (.jmp (.l6 (k:Int))) (decide (a.drop k=b.drop k)):=by
  intro he
  refine down ?_ fun k hk ih=>?_
  ·rw[Zm]
   simp[Zb6,Zg,ZY,he]
  ·rw[Zm]
   have hkb:k < b.length:=he▸hk
   simp only[Zb6,Zg,Zam hk,Zam hkb,nng,Bool.and_self,if_true,Int.toNat_natCast,ZZ hk,ZZ hkb,ZF (k:=k) (by omega)]
   rw[ZT hk,ZT hkb]
   split
   ·rename_i h1
    have h2:(! decide (a[k]=b[k]))=true:=(congrArg Bool.not ZvS).symm.trans h1
    have h3:¬a[k]=b[k]:=by simpa using h2
    rw[decide_eq_false (fun e=>h3 (List.cons.inj e).1)]
    exact .leaf
   ·rename_i h1
    have h2:¬(! decide (a[k]=b[k]))=true:=fun h=>h1 ((congrArg Bool.not ZvS).trans h)
    have h3:a[k]=b[k]:=by simpa using h2
    rw[show decide (a[k] :: List.drop (k+1) a=b[k] :: List.drop (k+1) b)=decide (List.drop (k+1) a=List.drop (k+1) b) from decide_eq_decide.2 ⟨fun e=>(List.cons.inj e).2,fun e=>by rw[h3,e]⟩]
    exact ih
 unfold Zev Z8
 rw[Zg]
 by_cases h:a.length=b.length
 ·have:=loop h 0 (Nat.zero_le _)
  simpa[h] using this
 ·have:a≠b:=fun e=>h (congrArg _ e)
  rw[if_pos (by simp;omega),decide_eq_false this]
  exact .leaf
end Go.Ev
end

section
open Go Go.Ev
namespace Go.Ev
noncomputable section
noncomputable def ZiB:Run:=entG ZaG Zdp (fun a=>Zak a.1 a.2.1) (fun a=>Z8 a.1 a.2.1)
theorem Zmr:EntOK Go.Proofs.Tryd.prog 19 ZiB:=Zay (tb:=Zeu) (c:=Zdv) ZmB (by kernel_rfl) (by kernel_rfl) (by kernel_rfl) (fun a=>by kernel_rfl) fun ⟨a,b,_⟩ hk=>Zs (c:=Zdv) (K:=fun v=>(Zdp v,tps (toForms ZaG (a,b,())))) (S:=ZaB a b) (by kernel_rfl) (Zmy a b) (Zmu a b) (ZnM a b hk)
end
end Go.Ev
end

section
open Go Go.Ev
namespace Go.Ev
noncomputable section
def ZbE:Sig:=[]
noncomputable def ZhU:Tbl:=[(17,ZlZ),(5,Zh8),(18,ZiO),(6,Zi7),(19,ZiB)]
theorem ZoY:∀p∈ZhU,EntOK Go.Proofs.Tryd.prog p.1 p.2:=Zi Zrk (Zi ZjT (Zi ZmH (Zi Zln (Zi Zmr (ZD)))))
noncomputable def ZeX:Code:=Go.Proofs.Tryd.f7.body.getD .skip
def ZgP:Tb:=[]
def Zlm:Empty→JT Empty (Bool):=fun j=>nomatch j
def Zj1:JT Empty (Bool):=.br (Z7 Zj) (.br (Zb1 (ZR Zj) [((0:Int),(3:Int)),((1:Int),(2:Int))]) (.br (Zbb (ZR Zj) [((0:Int),(3:Int)),((1:Int),(2:Int))]) (.br (ZQ Zj (1:Int)) (.br (Zak (Zv Zj (1:Int)) [(0:Int),(1:Int)]) (.br (Z8 (Zv Zj (1:Int)) [(0:Int),(1:Int)]) (.br (ZQ Zj (0:Int)) (.br (Zak (Zv Zj (0:Int)) [(0:Int)]) (.br (Z8 (Zv Zj (0:Int)) [(0:Int)]) (.br (ZQ Zj (4:Int)) (.leaf ((Int.ofNat (List.length (Zv Zj (4:Int))))==(0:Int))) (.no)) (.leaf false)) (.no)) (.no)) (.leaf false)) (.no)) (.no)) (.leaf false)) (.no)) (.no)
def ZdG:Bool:=bif (Z7 Zj) then bif (Zb1 (ZR Zj) [((0:Int),(3:Int)),((1:Int),(2:Int))]) then bif (Zbb (ZR Zj) [((0:Int),(3:Int)),((1:Int),(2:Int))]) then bif (ZQ Zj (1:Int)) then bif (Zak (Zv Zj (1:Int)) [(0:Int),(1:Int)]) then bif (Z8 (Zv Zj (1:Int)) [(0:Int),(1:Int)]) then bif (ZQ Zj (0:Int)) then bif (Zak (Zv Zj (0:Int)) [(0:Int)]) then bif (Z8 (Zv Zj (0:Int)) [(0:Int)]) then bif (ZQ Zj (4:Int)) then ((Int.ofNat (List.length (Zv Zj (4:Int))))==(0:Int)) else false else false else false else false else false else false else false else false else false else false
def ZdB:Bool:=bif (Z7 Zj) then bif (Zb1 (ZR Zj) [((0:Int),(3:Int)),((1:Int),(2:Int))]) then bif (Zbb (ZR Zj) [((0:Int),(3:Int)),((1:Int),(2:Int))]) then bif (ZQ Zj (1:Int)) then bif (Zak (Zv Zj (1:Int)) [(0:Int),(1:Int)]) then bif (Z8 (Zv Zj (1:Int)) [(0:Int),(1:Int)]) then bif (ZQ Zj (0:Int)) then bif (Zak (Zv Zj (0:Int)) [(0:Int)]) then bif (Z8 (Zv Zj (0:Int)) [(0:Int)]) then bif (ZQ Zj (4:Int)) then true else false else true else false else false else true else false else false else true else false else false
theorem Zrf (hk:ZdB=true):Goes (Zlm) (Zj1) (ZdG):=Goes.brk hk (fun hk=>Goes.brk hk (fun hk=>Goes.brk hk (fun hk=>Goes.brk hk (fun hk=>Goes.brk hk (fun hk=>Goes.brk hk (fun hk=>Goes.brk hk (fun hk=>Goes.brk hk (fun hk=>Goes.brk hk (fun hk=>Goes.brk hk (fun hk=>Goes.leaf) (fun hk=>Goes.nok hk)) (fun hk=>Goes.leaf)) (fun hk=>Goes.nok hk)) (fun hk=>Goes.nok hk)) (fun hk=>Goes.leaf)) (fun hk=>Goes.nok hk)) (fun hk=>Goes.nok hk)) (fun hk=>Goes.leaf)) (fun hk=>Goes.nok hk)) (fun hk=>Goes.nok hk)
def ZeC:Bool→AV:=fun (r:Bool)=>.d .bool r
def Zbh:Empty→Nat×St:=fun j=>nomatch j
theorem ZoN (L:Lt):entryA Go.Proofs.Tryd.prog (clOf ZhU) ZgP Go.Proofs.Tryd.f7 ZeX L (toForms ZbE (()))=(Zj1).run (fun v=>some (ZeC v,tps (toForms ZbE (())))) fun j=>L (Zbh j).1 (Zbh j).2:=by kernel_rfl
theorem Zo0:∀(L:Lt) (j:Empty),procOf (procsF Go.Proofs.Tryd.prog (clOf ZhU) ZgP Go.Proofs.Tryd.f7 ZeX (toForms ZbE (()))) (Zbh j).1 L (Zbh j).2=(Zlm j).run (fun v=>some (ZeC v,tps (toForms ZbE (())))) fun j=>L (Zbh j).1 (Zbh j).2:=fun L j=>nomatch j
noncomputable def ZkT:Run:=entG ZbE ZeC (fun a=>ZdB) (fun a=>ZdG)
theorem Zph:EntOK Go.Proofs.Tryd.prog 7 ZkT:=Zay (tb:=ZgP) (c:=ZeX) ZoY (by kernel_rfl) (by kernel_rfl) (by kernel_rfl) (fun a=>by kernel_rfl) fun _ hk=>Zs (c:=ZeX) (K:=fun v=>(ZeC v,tps (toForms ZbE (())))) (S:=Zbh) (by kernel_rfl) (ZoN) (Zo0) (Zrf hk)
end
end Go.Ev
end

section
open Go Go.Ev
namespace Go.Ev
noncomputable section
def ZG:Sig:=[(false,(.sl Zf)),(false,(.sl (.sl Zf)))]
noncomputable def Zdj:Tbl:=[(4,Zns),(5,Zh8),(6,Zi7),(7,ZkT)]
theorem Zkc:∀p∈Zdj,EntOK Go.Proofs.Tryd.prog p.1 p.2:=Zi Zs7 (Zi ZjT (Zi Zln (Zi Zph (ZD))))
noncomputable def ZbK:Code:=Go.Proofs.Tryd.f3.body.getD .skip
def Zfj:Tb:=[(8,⟨[6,7],[]⟩),(13,⟨[6,7,8],[]⟩)]
inductive ZaK where | l8 (t:Int) (q:List (List (El Za))) | l13 (i:Int) (q:List (List (El Za))) (t:Int)
def Z9 (l:List (El Zf)) (m:List (List (El Zf))):ZaK→JT ZaK (Bool) |.l8 t q=>.br (decide (t < (Int.ofNat (List.length q)))) (.jmp (.l13 (0:Int) q t)) (.br (Z7 ((Zl m (3:Int) (6:Int)).1,q)) (.br ((Int.ofNat (List.length (ZR ((Zl m (3:Int) (6:Int)).1,q))))==(0:Int)) (.br (ZQ ((Zl m (3:Int) (6:Int)).1,q) (0:Int)) (.br ((Int.ofNat (List.length (Zv ((Zl m (3:Int) (6:Int)).1,q) (0:Int))))==(0:Int)) (.br ZdB (.leaf ZdG) (.no)) (.leaf false)) (.no)) (.leaf false)) (.no)) |.l13 i q t=>.br ((decide ((0:Int)≤t))&&(decide (t < (Int.ofNat (List.length q))))) (.br (decide (i < (Int.ofNat (List.length (List.getD q (Int.toNat t) (dflt (.sl Za))))))) (.br ((decide ((0:Int)≤t))&&(decide (t < (Int.ofNat (List.length q))))) (.br ((decide ((0:Int)≤i))&&(decide (i < (Int.ofNat (List.length (List.getD q (Int.toNat t) (dflt (.sl Za)))))))) (.br ((List.getD (List.getD q (Int.toNat t) (dflt (.sl Za))) (Int.toNat i) (dflt Za)).2.2.2.1.1==(3:Int)) (.br ((decide ((0:Int)≤t))&&(decide (t < (Int.ofNat (List.length q))))) (.br ((decide ((0:Int)≤i))&&(decide (i < (Int.ofNat (List.length (List.getD q (Int.toNat t) (dflt (.sl Za)))))))) (.jmp (.l13 (IntKind.i64.wrap (i+(1:Int))) (List.set q (Int.toNat t) (List.set (List.getD q (Int.toNat t) (dflt (.sl Za))) (Int.toNat i) ((1:Int),(false,((0:Int),(((1:Int),((0:Int),((0:Int),(0:Int)))),((List.getD (List.getD q (Int.toNat t) (dflt (.sl Za))) (Int.toNat i) (dflt Za)).2.2.2.1,((bs []),(List.getD (List.getD q (Int.toNat t) (dflt (.sl Za))) (Int.toNat i) (dflt Za)).2.2.2.2.2.2)))))))) t)) (.no)) (.no)) (.br ((List.getD (List.getD q (Int.toNat t) (dflt (.sl Za))) (Int.toNat i) (dflt Za)).2.2.2.1.1==(4:Int)) (.br ((decide ((0:Int)≤t))&&(decide (t < (Int.ofNat (List.length q))))) (.br ((decide ((0:Int)≤i))&&(decide (i < (Int.ofNat (List.length (List.getD q (Int.toNat t) (dflt (.sl Za)))))))) (.jmp (.l13 (IntKind.i64.wrap (i+(1:Int))) (List.set q (Int.toNat t) (List.set (List.getD q (Int.toNat t) (dflt (.sl Za))) (Int.toNat i) ((1:Int),(false,((0:Int),(((1:Int),((0:Int),((0:Int),(0:Int)))),((List.getD (List.getD q (Int.toNat t) (dflt (.sl Za))) (Int.toNat i) (dflt Za)).2.2.2.1,((bs []),(List.getD (List.getD q (Int.toNat t) (dflt (.sl Za))) (Int.toNat i) (dflt Za)).2.2.2.2.2.2)))))))) t)) (.no)) (.no)) (.jmp (.l13 (IntKind.i64.wrap (i+(1:Int))) q t)))) (.no)) (.no)) (.jmp (.l8 (IntKind.i64.wrap (t+(1:Int))) q))) (.no)
def ZcZ (l:List (El Zf)) (m:List (List (El Zf))):JT ZaK (Bool):=.br (Zb9 [l] (1:Int) (9:Int)) (.br (Z7 (Zl [l] (1:Int) (9:Int))) (.br (decide ((Int.ofNat (List.length (ZR (Zl [l] (1:Int) (9:Int))))) > (0:Int))) (.leaf false) (.br (ZQ (Zl [l] (1:Int) (9:Int)) (0:Int)) (.br (decide ((Int.ofNat (List.length (Zv (Zl [l] (1:Int) (9:Int)) (0:Int)))) > (0:Int))) (.leaf false) (.br (Zb9 m (3:Int) (6:Int)) (.jmp (.l8 (0:Int) (Zl m (3:Int) (6:Int)).2)) (.no))) (.no))) (.no)) (.no)
def ZbH:Bool→AV:=fun (r:Bool)=>.d .bool r
def Zab (l:List (El Zf)) (m:List (List (El Zf))):ZaK→Nat×St |.l8 t q=>(8,⟨mkTm 89 [(6,.pt 7 0 0),(7,.d (.int .i64) t)],[(7,0,.box 27 [.own 7169 0 none,.dn 7170 0 []] none),(7169,0,.row 45 ZH (Zl m (3:Int) (6:Int)).1 false),(7170,0,.deep 35 (.ro (.leaf Za)) q)]⟩) |.l13 i q t=>(13,⟨mkTm 89 [(6,.pt 7 0 0),(7,.d (.int .i64) t),(8,.d (.int .i64) i)],[(7,0,.box 27 [.own 7169 0 none,.dn 7170 0 []] none),(7169,0,.row 45 ZH (Zl m (3:Int) (6:Int)).1 false),(7170,0,.deep 35 (.ro (.leaf Za)) q)]⟩)
theorem Zkm (l:List (El Zf)) (m:List (List (El Zf))) (L:Lt):entryA Go.Proofs.Tryd.prog (clOf Zdj) Zfj Go.Proofs.Tryd.f3 ZbK L (toForms ZG (l,m,()))=(ZcZ l m).run (fun v=>some (ZbH v,tps (toForms ZG (l,m,())))) fun j=>L (Zab l m j).1 (Zab l m j).2:=by kernel_rfl
theorem Zj7 (l:List (El Zf)) (m:List (List (El Zf))):∀(L:Lt) (j:ZaK),procOf (procsF Go.Proofs.Tryd.prog (clOf Zdj) Zfj Go.Proofs.Tryd.f3 ZbK (toForms ZG (l,m,()))) (Zab l m j).1 L (Zab l m j).2=(Z9 l m j).run (fun v=>some (ZbH v,tps (toForms ZG (l,m,())))) fun j=>L (Zab l m j).1 (Zab l m j).2 | L,.l8 t q=>by kernel_rfl | L,.l13 i q t=>by kernel_rfl
end
end Go.Ev
end

section
namespace Go.Ev
open Go
theorem Zpl (i:El Za) (ls:List ByteArray):Zt (setL i ls)=Zt i:=rfl
theorem ZxQ (i:El Za) (ls:List ByteArray):(setL i ls).2.2.2.2.2.1=i.2.2.2.2.2.1:=rfl
theorem ZpM {th:List (List (El Za))} {k r s n:Int} (h:k=3∨k=4→placeOK k s n=true):placeC (symsB,th) (k,(r,(s,n)))=0:=by
 show placeN 3 _ k s n=0
 unfold placeN
 by_cases hk:k=3∨k=4
 ·rw[if_pos hk]
  have:=h hk
  unfold placeOK at this
  simp only[Bool.and_eq_true,decide_eq_true_eq,Bool.or_eq_true,beq_iff_eq] at this
  obtain ⟨h0,h3,hn⟩:=this
  rw[if_neg (by omega)]
  have hs:s=0∨s=1∨s=2:=by omega
  rcases hs with rfl | rfl | rfl
  ·rw[if_neg]
   rintro ⟨h1,h2⟩
   have h2:(1:Int)≤n:=h2
   rcases hn with hn | hn
   ·omega
   ·have hn:n < (1:Int):=hn
    omega
  ·rw[if_neg]
   rintro ⟨h1,h2⟩
   have h2:(2:Int)≤n:=h2
   rcases hn with hn | hn
   ·omega
   ·have hn:n < (2:Int):=hn
    omega
  ·rw[if_neg]
   rintro ⟨h1,h2⟩
   have h2:(1:Int)≤n:=h2
   rcases hn with hn | hn
   ·omega
   ·have hn:n < (1:Int):=hn
    omega
 ·rw[if_neg hk]
theorem ZvO {th:List (List (El Za))} {many:Int} {i:El Za} (h:BookOK many i) (ls:List ByteArray):insC (symsB,th) (setL i ls)=0:=by
 have hA:placeC (symsB,th) i.2.2.2.1=0:=ZpM (k:=i.2.2.2.1.1) (r:=i.2.2.2.1.2.1) (s:=i.2.2.2.1.2.2.1) (n:=i.2.2.2.1.2.2.2) h.placeA
 have hB:placeC (symsB,th) i.2.2.2.2.1=0:=ZpM (k:=i.2.2.2.2.1.1) (r:=i.2.2.2.2.1.2.1) (s:=i.2.2.2.2.1.2.2.1) (n:=i.2.2.2.2.1.2.2.2) h.placeB
 unfold insC
 rw[Zpl,h.right]
 show (if (0:Int)≠0 then _ else if placeC (symsB,th) i.2.2.2.1≠0 then _ else placeC (symsB,th) i.2.2.2.2.1)=0
 rw[hA,hB]
 rfl
theorem Zte {p:El Zd} {K:List ByteArray→Int} :∀(x:List (El Za)) (k:Nat) (seen:List ByteArray),
  (∀(j:Nat) (i:El Za),x[j]? =some i→(i.2.2.2.2.2.2=[]∨i.2.2.2.2.2.2=[Zh ((k+j:Nat):Int)])∧insC p i=0)→(∀l∈seen,∃k',k' < k∧l=Zh (k':Int))→k+x.length≤100→scanI p K seen x=K (seen++labels x)
 | [],k,seen,_,_,_=>by simp[scanI,labels]
 | i :: r,k,seen,h,hs,hk=>by
  obtain ⟨hl,hi⟩:=h 0 i rfl
  rw[List.length_cons] at hk
  have hr:=fun seen' hs'=>Zte (K:=K) r (k+1) seen' (fun j y hy=>by
   have:=h (j+1) y (by simpa using hy)
   rwa[show k+(j+1)=k+1+j by omega] at this) hs' (by omega)
  unfold scanI
  rcases hl with hl | hl
  ·rw[hl]
   unfold scanL
   rw[hi]
   simp only[ne_eq,not_true_eq_false,if_false]
   rw[hr seen fun l hl=>by obtain ⟨k',h1,h2⟩:=hs l hl;exact ⟨k',by omega,h2⟩]
   unfold labels
   rw[List.flatMap_cons,hl,List.nil_append]
  ·rw[hl,Nat.add_zero]
   unfold scanL
   rw[if_neg (by rw[(ZhG (k:=(k:Int)) (by omega) (by omega)).1];decide)]
   have hns:seen.contains (Zh (k:Int))=false:=by
    rw[Bool.eq_false_iff]
    intro hc
    rw[List.contains_iff_mem] at hc
    obtain ⟨k',h1,h2⟩:=hs _ hc
    have:=Zv9 (by omega) (by omega) h2
    omega
   rw[if_neg (by rw[hns];decide)]
   unfold scanL
   rw[hi]
   simp only[ne_eq,not_true_eq_false,if_false]
   rw[hr _ fun l hl=>by
    rcases List.mem_append.1 hl with hl | hl
    ·obtain ⟨k',h1,h2⟩:=hs l hl;exact ⟨k',by omega,h2⟩
    ·rw[List.mem_singleton] at hl;exact ⟨k,by omega,hl⟩]
   unfold labels
   rw[List.flatMap_cons,hl,Nat.add_zero,List.append_assoc]
theorem ZsA {seen:List ByteArray} :∀ {x:List (El Za)},(∀i∈x,((i.1==(10:Int)) || (i.1==(11:Int)))=true→seen.contains i.2.2.2.2.2.1=true)→jumpC seen x=0
 | [],_=>rfl
 | i :: r,h=>by
  unfold jumpC
  have ih:=ZsA fun j hj=>h j (List.mem_cons_of_mem _ hj)
  by_cases hj:((i.1==(10:Int)) || (i.1==(11:Int)))=true
  ·rw[if_pos hj,if_pos (h i (List.mem_cons_self ..) hj)];exact ih
  ·rw[if_neg hj];exact ih
theorem Ze8 {a:List (El Zf)} {n:Nat} (hn:n≤90) (ha:n≤a.length) {k:Nat} {i:El Za} (h:(threadB a n)[k]? =some i):
  (k < n∧∃x,(baseT a n)[k]? =some x∧BookOK ((n+1:Nat):Int) x∧i=setL x (if sAt (baseT a n) n k then [Zh (k:Int)] else []))∨(k=n∧i=setL (bare 14) (if sAt (baseT a n) n k then [Zh (k:Int)] else [])):=by
 have hl:=Zg3 a n ha
 obtain ⟨hk,he⟩:=List.getElem?_eq_some_iff.1 h
 unfold threadB at hk he
 rw[ZdH hk] at he
 rw[Zao,hl] at hk
 by_cases hkn:k < n
 ·obtain ⟨x,h1,h2⟩:=Zva hn hkn ha
  obtain ⟨h3,h4⟩:=List.getElem?_eq_some_iff.1 h1
  rw[h4] at he
  exact .inl ⟨hkn,_,h1,h2,he.symm⟩
 ·have hkn:k=n:=by omega
  subst hkn
  have:(baseT a k)[k]'(by omega)=bare 14:=by
   unfold baseT
   rw[List.getElem_append_right (by simp;omega)]
   simp
  rw[this] at he
  exact .inr ⟨rfl,he.symm⟩
theorem Zt7 (many:Int) (ls:List ByteArray) {th:List (List (El Za))} :insC (symsB,th) (setL (bare 14) ls)=0:=by
 unfold insC
 rw[Zpl,ZuX (.inr (.inr rfl))]
 rfl
theorem Zvj {x:List (El Za)} {k:Nat} {i:El Za} {l:ByteArray} (h:x[k]? =some i) (hl:l∈i.2.2.2.2.2.2):(labels x).contains l=true:=by
 rw[List.contains_iff_mem]
 unfold labels
 exact List.mem_flatMap.2 ⟨i,List.mem_of_getElem? h,hl⟩
theorem ZrH {a:List (El Zf)} {n:Nat} (hn:n≤90) (ha:n≤a.length) {th:List (List (El Za))} :threadC (symsB,th) (threadB a n)=0:=by
 have hlen:(threadB a n).length=n+1:=by unfold threadB;rw[Zao,Zg3 a n ha]
 unfold threadC
 have hc:=ZvW (threadB a n)
 rw[if_neg (by omega),Zte (threadB a n) 0 [] (fun j i h=>by
  rw[Nat.zero_add]
  rcases Ze8 hn ha h with ⟨_,x,_,hx,rfl⟩ | ⟨_,rfl⟩
  ·refine ⟨?_,ZvO hx _⟩
   show (if _ then [Zh (j:Int)] else [])=[]∨(if _ then [Zh (j:Int)] else [])=[Zh (j:Int)]
   split
   ·exact .inr rfl
   ·exact .inl rfl
  ·refine ⟨?_,Zt7 0 _⟩
   show (if _ then [Zh (j:Int)] else [])=[]∨(if _ then [Zh (j:Int)] else [])=[Zh (j:Int)]
   split
   ·exact .inr rfl
   ·exact .inl rfl) (fun l hl=>by cases hl) (by omega)]
 rw[List.nil_append,Zv2 (by omega)]
 have hlast:(threadB a n)[(threadB a n).length - 1]? =some ((threadB a n)[(threadB a n).length - 1]'(by omega)):=List.getElem?_eq_getElem (by omega)
 have h14:(((threadB a n)[(threadB a n).length - 1]'(by omega)).1==(10:Int) || ((threadB a n)[(threadB a n).length - 1]'(by omega)).1==(14:Int))=true:=by
  rcases Ze8 hn ha hlast with ⟨h1,_⟩ | ⟨_,h2⟩
  ·omega
  ·rw[h2];rfl
 rw[if_pos h14]
 refine ZsA fun i hi hj=>?_
 obtain ⟨k,hk⟩:=List.getElem?_of_mem hi
 rcases Ze8 hn ha hk with ⟨hkn,x,hx,hb,rfl⟩ | ⟨_,rfl⟩
 ·rw[ZxQ]
  rcases hb.to with ⟨h1,h2,_⟩ | ⟨_,m,m0,m1,e⟩
  ·exfalso
   have hj:((x.1==(10:Int)) || (x.1==(11:Int)))=true:=hj
   simp only[Bool.or_eq_true,beq_iff_eq] at hj
   rcases hj with hj | hj
   ·exact h1 hj
   ·exact h2 hj
  ·rw[e]
   obtain ⟨q,rfl⟩:∃q:Nat,m=(q:Int):=⟨m.toNat,by omega⟩
   have hqn:q < n+1:=by omega
   have hq:(threadB a n)[q]? =some ((threadB a n)[q]'(by omega)):=List.getElem?_eq_getElem (by omega)
   have hs:sAt (baseT a n) n q=true:=by
    unfold sAt
    rw[List.any_eq_true]
    exact ⟨x,List.mem_of_getElem? (i:=k) (by rw[List.getElem?_take,if_pos hkn];exact hx),decide_eq_true e⟩
   refine Zvj hq ?_
   rcases Ze8 hn ha hq with ⟨_,y,_,_,h2⟩ | ⟨_,h2⟩
   ·rw[h2,hs];exact List.mem_singleton.2 rfl
   ·rw[h2,hs];exact List.mem_singleton.2 rfl
 ·cases hj
theorem Zvo {a:List (El Zf)} {n:Nat} (hn:n≤90) (ha:n≤a.length):smallThread (threadB a n)=true:=by
 have hlen:(threadB a n).length=n+1:=by unfold threadB;rw[Zao,Zg3 a n ha]
 have hlab:∀i∈threadB a n,smallText i.2.2.2.2.2.1=true∧i.2.2.2.2.2.2.length≤1∧∀l∈i.2.2.2.2.2.2,smallText l=true:=fun i hi=>by
  obtain ⟨k,hk⟩:=List.getElem?_of_mem hi
  have hkl:=(List.getElem?_eq_some_iff.1 hk).1
  have hls:∀b:Bool,(if b=true then [Zh (k:Int)] else []).length≤1∧∀l∈(if b=true then [Zh (k:Int)] else []),smallText l=true:=fun b=>by
   cases b with
   | false=>exact ⟨by simp,fun l hl=>by simp at hl⟩
   | true=>exact ⟨by simp,fun l hl=>by
     rw[if_pos rfl,List.mem_singleton] at hl
     rw[hl];exact (ZhG (by omega) (by omega)).2⟩
  rcases Ze8 hn ha hk with ⟨hkn,x,hx,hb,rfl⟩ | ⟨_,rfl⟩
  ·exact ⟨hb.small (by omega),hls _⟩
  ·exact ⟨(by decide:smallText (bs [])=true),hls _⟩
 have:=Zvt (t:=threadB a n) (n:=1) fun i hi=>(hlab i hi).2.1
 unfold smallThread
 simp only[Bool.and_eq_true,decide_eq_true_eq,List.all_eq_true]
 exact ⟨by omega,by omega,fun i hi=>⟨(hlab i hi).1,(hlab i hi).2.2⟩⟩
theorem Zu3 (K:Int):symsC K [] symsB=K:=by kernel_rfl
theorem Zsm {p:El Zd} :∀ {th:List (List (El Za))},(∀t∈th,threadC p t=0)→thsC p th=0
 | [],_=>rfl
 | t :: r,h=>by
  unfold thsC
  rw[h t (List.mem_cons_self ..)]
  simp only[ne_eq,not_true_eq_false,if_false]
  exact Zsm fun x hx=>h x (List.mem_cons_of_mem _ hx)
theorem Zu0 (l:List (List (El Zf))) {threads many:Int} (h0:0≤threads) (h1:threads≤64) (m0:0≤many) (m1:many≤90):checkC (Zl l threads many)=0∧smallProg (Zl l threads many)=true∧Zb9 l threads many=true:=by
 refine ⟨?_,?_,?_⟩
 ·unfold checkC Zl
  show (if 64 < symsB.length∨64 < ((l.take threads.toNat).map fun a=>threadB a (min a.length many.toNat)).length then (10:Int) else symsC (thsC _ ((l.take threads.toNat).map fun a=>threadB a (min a.length many.toNat))) [] symsB)=0
  rw[if_neg,Zu3]
  ·exact Zsm fun t ht=>by
    obtain ⟨a,_,rfl⟩:=List.mem_map.1 ht
    exact ZrH (by omega) (by omega)
  ·rw[List.length_map,List.length_take]
   have:symsB.length=3:=rfl
   omega
 ·unfold smallProg Zl
  simp only[Bool.and_eq_true,List.all_eq_true]
  refine ⟨?_,fun t ht=>?_⟩
  ·have:symsB.all (fun s=>smallText s.1)=true:=by decide+kernel
   rw[List.all_eq_true] at this
   exact this
  ·obtain ⟨a,_,rfl⟩:=List.mem_map.1 ht
   exact Zvo (by omega) (by omega)
 ·unfold Zb9
  simp only[Bool.and_eq_true,decide_eq_true_eq]
  omega
end Go.Ev
end

section
namespace Go.Ev
open Go
theorem ZrM {l:List (List (El Za))} {n:Nat} (h:∀t∈l,List.length t≤n):total l≤n*l.length:=by
 unfold total
 induction l with
 | nil=>simp
 | cons t l ih=>
  rw[List.map_cons,List.sum_cons,List.length_cons,Nat.mul_add,Nat.mul_one]
  have h1:=h t (List.mem_cons_self ..)
  have h2:=ih fun x hx=>h x (List.mem_cons_of_mem _ hx)
  omega
theorem Zxv {p:El Zd} :(ofC p).length≤2*total p.2:=by
 have:=Zrl 0 p.2
 unfold ofC
 split
 ·exact this
 ·simp
theorem Zus (l:List (List (El Zf))) {threads many:Int} (h0:0≤threads) (h1:threads≤64) (m0:0≤many) (m1:many≤90):
  smallAll (Zl l threads many)=true∧(Zl l threads many).2.length≤threads.toNat∧(ofC (Zl l threads many)).length≤11648∧checkC (Zl l threads many)=0∧Zb9 l threads many=true:=by
 obtain ⟨hc,hs,hk⟩:=Zu0 l h0 h1 m0 m1
 have hl:(Zl l threads many).2.length≤threads.toNat:=by
  show ((l.take threads.toNat).map fun a=>threadB a (min a.length many.toNat)).length≤_
  rw[List.length_map,List.length_take];omega
 have ht:=ZrM (l:=(Zl l threads many).2) (n:=91) fun t hm=>by
  obtain ⟨a,_,rfl⟩:=List.mem_map.1 (show t∈(l.take threads.toNat).map fun a=>threadB a (min a.length many.toNat) from hm)
  show (threadB a _).length≤91
  unfold threadB
  rw[Zao,Zg3 a _ (by omega)]
  omega
 have ho:= @Zxv (Zl l threads many)
 refine ⟨?_,hl,by omega,hc,hk⟩
 unfold smallAll
 simp only[Bool.and_eq_true,decide_eq_true_eq]
 exact ⟨hs,by omega,by omega⟩
end Go.Ev
end

section
open Go
namespace Go.Ev
section
variable {α:Type} (f:α→α)
def mapR (x:List α) (i:Nat):List α:=(x.take i).map f++x.drop i
def mapQ (q:List (List α)) (t i:Nat):List (List α):=(q.take t).map (List.map f)++((q.drop t).take 1).map (fun x=>mapR f x i)++q.drop (t+1)
variable {f}
theorem Zuz {x:List α} {i:Nat} (h:i≤x.length):(mapR f x i).length=x.length:=by unfold mapR;simp;omega
theorem Zxo {x:List α} {i:Nat} (h:i < x.length) (z:α):(mapR f x i).getD i z=x[i]:=by
 unfold mapR
 rw[List.getD_eq_getElem?_getD,List.getElem?_append_right (by simp;omega)]
 simp[Nat.min_eq_left (Nat.le_of_lt h),List.getElem?_eq_getElem h]
theorem ZuL {x:List α} {i:Nat} (h:i < x.length):(mapR f x i).set i (f x[i])=mapR f x (i+1):=by
 unfold mapR
 have hml:((x.take i).map f).length=i:=by rw[List.length_map,List.length_take,Nat.min_eq_left (Nat.le_of_lt h)]
 rw[List.set_append_right _ _ (by omega),hml,Nat.sub_self,ZT h,List.set_cons_zero,List.take_succ_eq_append_getElem h,List.map_append,List.append_assoc]
 rfl
theorem Zwu {x:List α} {i:Nat} (h:i < x.length) (hf:f x[i]=x[i]):mapR f x (i+1)=mapR f x i:=by
 rw[←ZuL h,hf]
 have:(mapR f x i)[i]? =some x[i]:=by
  unfold mapR
  rw[List.getElem?_append_right (by simp;omega)]
  simp[Nat.min_eq_left (Nat.le_of_lt h),List.getElem?_eq_getElem h]
 have hlt:=(List.getElem?_eq_some_iff.1 this)
 obtain ⟨h1,h2⟩:=hlt
 rw[←h2]
 exact List.set_getElem_self h1
theorem ZwT {x:List α} :mapR f x x.length=x.map f:=by unfold mapR;rw[List.take_length,List.drop_length,List.append_nil]
theorem Zr2 {x:List α} :mapR f x 0=x:=by unfold mapR;simp
theorem Zkw {q:List (List α)} {t i:Nat} (h:t < q.length):mapQ f q t i=(q.take t).map (List.map f)++mapR f q[t] i :: q.drop (t+1):=by
 unfold mapQ
 rw[ZT h,List.take_succ_cons,List.take_zero,List.map_cons,List.map_nil,List.append_assoc]
 rfl
theorem ZqS {q:List (List α)} {t i:Nat} (h:t < q.length):(mapQ f q t i).length=q.length:=by rw[Zkw h];simp;omega
theorem Zux {q:List (List α)} {t i:Nat} (h:t < q.length) (z:List α):(mapQ f q t i).getD t z=mapR f q[t] i:=by
 rw[Zkw h,List.getD_eq_getElem?_getD,List.getElem?_append_right (by simp;omega)]
 simp[Nat.min_eq_left (Nat.le_of_lt h)]
theorem Zxd {q:List (List α)} {t i j:Nat} (h:t < q.length):(mapQ f q t i).set t (mapR f q[t] j)=mapQ f q t j:=by
 have hml:((q.take t).map (List.map f)).length=t:=by rw[List.length_map,List.length_take,Nat.min_eq_left (Nat.le_of_lt h)]
 rw[Zkw h,Zkw h,List.set_append_right _ _ (by omega),hml,Nat.sub_self,List.set_cons_zero]
theorem Zwf {q:List (List α)} {t:Nat} (h:t < q.length):mapQ f q t (List.length q[t])=mapQ f q (t+1) 0:=by
 rw[Zkw h,ZwT]
 unfold mapQ
 rw[List.take_succ_eq_append_getElem h,List.map_append,List.append_assoc,List.append_assoc]
 have:((q.drop (t+1)).take 1).map (fun x=>mapR f x 0)++q.drop (t+1+1)=q.drop (t+1):=by
  by_cases h2:t+1 < q.length
  ·rw[ZT h2,List.take_succ_cons,List.take_zero,List.map_cons,List.map_nil,Zr2];rfl
  ·rw[List.drop_eq_nil_of_le (by omega),List.drop_eq_nil_of_le (by omega)];rfl
 rw[this]
 rfl
theorem Zxh {q:List (List α)} :mapQ f q q.length 0=q.map (List.map f):=by
 unfold mapQ
 rw[List.take_length,List.drop_length,List.drop_eq_nil_of_le (by omega)]
 simp
theorem ZvU {q:List (List α)} :mapQ f q 0 0=q:=by
 unfold mapQ
 cases q with
 | nil=>rfl
 | cons x r=>simp[Zr2]
end
def keepsI (f:El Za→El Za):Prop:=∀x,(f x).2.2.2.2.2.2=x.2.2.2.2.2.2∧(smallText x.2.2.2.2.2.1=true→smallText (f x).2.2.2.2.2.1=true)
variable {f:El Za→El Za}
theorem Zu6 (hf:keepsI f) (t:List (El Za)):labels (t.map f)=labels t:=by
 unfold labels
 rw[List.flatMap_map]
 congr 1
 funext x
 exact (hf x).1
theorem Znu (hf:keepsI f) {t:List (El Za)} (h:smallThread t=true):smallThread (t.map f)=true:=by
 unfold smallThread at h ⊢
 rw[Zu6 hf]
 simp only[Bool.and_eq_true,decide_eq_true_eq,List.all_eq_true,List.length_map,List.mem_map] at h ⊢
 refine ⟨h.1,h.2.1,fun y hy=>?_⟩
 obtain ⟨x,hx,rfl⟩:=hy
 exact ⟨(hf x).2 (h.2.2 x hx).1,fun l hl=>(h.2.2 x hx).2 l ((hf x).1▸hl)⟩
theorem Zsc {q:List (List (El Za))} :total (q.map (List.map f))=total q:=by
 unfold total
 rw[List.map_map]
 congr 1
 refine List.map_congr_left fun x _=>?_
 simp
theorem Zvh (l:List (List (El Zf))) {threads many:Int} (h0:0≤threads) (h1:threads≤64) (m0:0≤many) (m1:many≤90):total (Zl l threads many).2≤5824:=by
 have hl:(Zl l threads many).2.length≤threads.toNat:=by
  show ((l.take threads.toNat).map fun a=>threadB a (min a.length many.toNat)).length≤_
  rw[List.length_map,List.length_take];omega
 have ht:=ZrM (l:=(Zl l threads many).2) (n:=91) fun t hm=>by
  obtain ⟨a,_,rfl⟩:=List.mem_map.1 (show t∈(l.take threads.toNat).map fun a=>threadB a (min a.length many.toNat) from hm)
  show (threadB a _).length≤91
  unfold threadB
  rw[Zao,Zg3 a _ (by omega)]
  omega
 omega
theorem ZxB {p:El Zd} (h:total p.2≤5824):(ofC (p.1,p.2.map (List.map f))).length≤11648:=by
 have:= @Zxv (p.1,p.2.map (List.map f))
 have e:total ((p.1,p.2.map (List.map f)):El Zd).2=total p.2:=Zsc
 omega
theorem ZrO (hf:keepsI f) {p:El Zd} (h:smallAll p=true):smallAll (p.1,p.2.map (List.map f))=true:=by
 unfold smallAll smallProg at h ⊢
 simp only[Bool.and_eq_true,decide_eq_true_eq,List.all_eq_true,List.length_map,List.mem_map] at h ⊢
 obtain ⟨⟨h1,h2⟩,h3,h4⟩:=h
 refine ⟨⟨h1,fun y hy=>?_⟩,h3,by rw[Zsc];exact h4⟩
 obtain ⟨x,hx,rfl⟩:=hy
 exact Znu hf (h2 x hx)
end Go.Ev
end

section
open Go
namespace Go.Ev
theorem ZpV {p:El Zd} (h:smallAll p=true) {i:Nat} (hi:i < (ofC p).length):
  0≤thA (ofC p) i∧thA (ofC p) i < (p.2.length:Int)∧flowOK (thrOf p (ofC p) i)=true∧0≤inA (ofC p) i∧inA (ofC p) i < ((thrOf p (ofC p) i).length:Int):=by
 have hA:=smallA h
 have hm:accA (ofC p) i∈ofC p:=by unfold accA;rw[ZZ hi];exact List.getElem_mem hi
 obtain ⟨u,x,j,y,h1,h2,h3,h4,h5⟩:=ZnU hm
 have hth:thA (ofC p) i=(u:Int):=h4
 have hin:inA (ofC p) i=(j:Int):=h5
 have hu:=(List.getElem?_eq_some_iff.1 h1).1
 have hj:=(List.getElem?_eq_some_iff.1 h2).1
 have ht:thrOf p (ofC p) i=x:=by
  unfold thrOf
  rw[hth,Int.toNat_natCast,List.getD_eq_getElem?_getD,h1];rfl
 rw[ht]
 exact ⟨by omega,by omega,ZpG (hA.thr x (List.mem_of_getElem? h1)),by omega,by omega⟩
end Go.Ev
end

section
open Go
namespace Go.Ev
def fromX (t:List (El Za)) (i:Int) (j:Nat):Bool:=(comeL (fun k j=>nextB t (k:Int) j) (nextB t i) t.length).getD j false
theorem ZwQ (t:List (El Za)) (i:Int) (j:Nat):fromB t i j=fromX t i j:=ZuH (fun j=>Zf0) (fun k j=>Zf0) j
def behX (p:El Zd) (l:List Acc) (c d:Nat):Bool:=
 decide (d < l.length)&&(thA l d==thA l c&&(d==c || ((inA l d==inA l c&&decide (paA l d > paA l c)) || (decide (0≤inA l d)&&fromX (thrOf p l c) (inA l c) (inA l d).toNat))))
theorem Zxw (p:El Zd) (l:List Acc) (c d:Nat):behB p l c d=behX p l c d:=by
 unfold behB behX
 rw[ZwQ]
def chX (p:El Zd) (l:List Acc) (a i k:Nat):Bool:=decide (k < l.length)&&(!(thA l k==thA l a)&&(clB l i k || behX p l i k))
def isX (p:El Zd) (l:List Acc) (a k:Nat):Bool:=(comeL (chX p l a) (chS l a) l.length).getD k false
theorem Zx7 (p:El Zd) (l:List Acc) (a k:Nat):isB p l a k=isX p l a k:=by
 have e:chB p l a=chX p l a:=by
  funext i k
  unfold chB chX
  rw[Zxw]
 unfold isB isX
 rw[e]
 refine ZuH (fun j h=>?_) (fun k j h=>?_) k
 ·unfold chS at h
  rw[Bool.and_eq_true,decide_eq_true_eq] at h
  exact h.1
 ·unfold chX at h
  rw[Bool.and_eq_true,decide_eq_true_eq] at h
  exact h.1
def backX (p:El Zd) (l:List Acc) (a b:Nat):Bool:=thA l b==thA l a&&(List.range l.length).any fun k=>isX p l a k&&clB l k b
theorem Zw0 (p:El Zd) (l:List Acc) (a b:Nat):backB p l a b=backX p l a b:=by
 unfold backB backX
 simp only[Zx7]
end Go.Ev
end

section
open Go
namespace Go.Ev
theorem alive23:ZdB=true∧ZdG=true:=by
 have hs:smallAll Zj=true:=by decide+kernel
 have hN:(ofC Zj).length=4:=by decide+kernel
 have kp:Z7 Zj=true:=by decide+kernel
 have kb:∀a,ZQ Zj a=true:=fun _=>hs
 have vp:ZR Zj=[(0,3),(1,2)]:=by decide+kernel
 have bk:∀a:Nat,a < 4→Zv Zj (a:Int)=listOf 4 (backX Zj (ofC Zj) a):=fun a ha=>by
  unfold Zv
  rw[hN,if_pos ⟨by omega,by omega⟩]
  exact ZiQ fun i _=>by rw[Zw0,Int.toNat_natCast]
 have b1:Zv Zj 1=[0,1]:=(bk 1 (by decide)).trans (by decide+kernel)
 have b0:Zv Zj 0=[0]:=(bk 0 (by decide)).trans (by decide+kernel)
 have b4:Zv Zj 4=[]:=by
  unfold Zv
  rw[hN,if_neg (by omega)]
 unfold ZdB ZdG
 simp only[kp,kb,vp,b1,b0,b4]
 exact ⟨by decide+kernel,by decide+kernel⟩
end Go.Ev
end

section
open Go
namespace Go.Ev
def Zdo (l:List (El Zf)) (m:List (List (El Zf))):Bool:=true
def ZfT (l:List (El Zf)) (m:List (List (El Zf))):Bool:=true
theorem ZuB {p:El Zd} (h:∀i k,i < (ofC p).length→k < (ofC p).length→clB (ofC p) i k=false):ZR p=[]∧Zv p (0:Int)=[]:=by
 constructor
 ·unfold ZR pairsFrom
  rw[List.flatMap_eq_nil_iff]
  intro i hi
  unfold pairI
  rw[List.map_eq_nil_iff,List.filter_eq_nil_iff]
  intro k hk
  simp only[List.mem_range'_1] at hi hk
  rw[h i k (by omega) (by omega)]
  decide
 ·unfold Zv
  split
  ·rename_i h0
   unfold listOf
   rw[List.map_eq_nil_iff,List.filter_eq_nil_iff]
   intro b hb hbb
   unfold backB at hbb
   simp only[Bool.and_eq_true,List.any_eq_true] at hbb
   obtain ⟨_,k,hk,h1,h2⟩:=hbb
   rw[h k b (List.mem_range.1 hk) (List.mem_range.1 hb)] at h2
   cases h2
  ·rfl
theorem Zub {l:List Acc} {i k:Nat} (h1:(show Bool from (accA l i).2.2.2.2.1)=false) (h2:(show Bool from (accA l k).2.2.2.2.1)=false):clB l i k=false:=by
 have h1':(accA l i).2.2.2.2.1=false:=h1
 have h2':(accA l k).2.2.2.2.1=false:=h2
 unfold clB Zap
 rw[h1',h2']
 cases ((accA l i).1 !=(accA l k).1) <;> cases ((accA l i).2.2.2.1==(accA l k).2.2.2.1) <;> rfl
def noW (x:El Za):El Za:=if (x.2.2.2.1.1==(3:Int))=true∨(x.2.2.2.1.1==(4:Int))=true then ((1:Int),(false,((0:Int),(((1:Int),((0:Int),((0:Int),(0:Int)))),(x.2.2.2.1,((bs []),x.2.2.2.2.2.2)))))) else x
theorem ZvL:keepsI noW:=fun x=>by
 unfold noW
 split
 ·exact ⟨rfl,fun _=>rfl⟩
 ·exact ⟨rfl,fun h=>h⟩
theorem ZuZ (x:El Za):(Z0 (noW x)).2=false:=by
 have hm:Zq (noW x).2.2.2.1=false:=by
  unfold noW Zq
  split
  ·rfl
  ·rename_i h
   rw[not_or] at h
   have h1:(x.2.2.2.1.1==(3:Int))=false:=by simpa using h.1
   have h2:(x.2.2.2.1.1==(4:Int))=false:=by simpa using h.2
   have hr:Zo x.2.2.2.1=false∨(x.2.2.2.1.1==(1:Int))=true∨(x.2.2.2.1.1==(2:Int))=true:=by
    unfold Zo
    rw[h1,h2]
    cases (x.2.2.2.1.1==(1:Int)) <;> cases (x.2.2.2.1.1==(2:Int)) <;> simp
   rw[h1]
   rcases hr with hr | hr | hr <;> rw[hr]
   ·rfl
   ·cases Zo x.2.2.2.1 <;> rfl
   ·cases Zo x.2.2.2.1 <;> cases (x.2.2.2.1.1==(1:Int)) <;> rfl
 unfold Z0
 rw[hm]
 cases ZM (noW x) <;> cases (Zt (noW x) !=(0:Int)) <;> rfl
theorem ZsV {p:El Zd} {i:Nat} (hi:i < (ofC (p.1,p.2.map (List.map noW))).length):(show Bool from (accA (ofC (p.1,p.2.map (List.map noW))) i).2.2.2.2.1)=false:=by
 have hm:accA (ofC (p.1,p.2.map (List.map noW))) i∈ofC (p.1,p.2.map (List.map noW)):=by unfold accA;rw[ZZ hi];exact List.getElem_mem hi
 obtain ⟨u,x,j,y,h1,h2,h3,_⟩:=ZnU hm
 have h1:(p.2.map (List.map noW))[u]? =some x:=h1
 rw[List.getElem?_map] at h1
 obtain ⟨x0,_,rfl⟩:=Option.map_eq_some_iff.1 h1
 rw[List.getElem?_map] at h2
 obtain ⟨y0,_,rfl⟩:=Option.map_eq_some_iff.1 h2
 rcases ZsI.1 h3 with ⟨_,e⟩ | ⟨e,_⟩
 ·rw[e]
 ·rw[ZuZ] at e;cases e
theorem ZkC (l:List (El Zf)) (m:List (List (El Zf))) (hk:ZfT l m=true):Goes (Z9 l m) (ZcZ l m) (Zdo l m):=by
 obtain ⟨ka,va⟩:=alive23
 obtain ⟨p1,p2,p3,_,pk⟩:=Zus [l] (threads:=1) (many:=9) (by decide) (by decide) (by decide) (by decide)
 obtain ⟨q1,q2,q3,_,qk⟩:=Zus m (threads:=3) (many:=6) (by decide) (by decide) (by decide) (by decide)
 obtain ⟨T,hT⟩:∃T,T=Z9 l m:=⟨_,rfl⟩
 rw[←hT]
 unfold ZcZ Zdo
 rw[Zg,if_pos pk]
 have kP:∀p:El Zd,smallAll p=true→(ofC p).length≤100000→Z7 p=true:=fun p h1 h2=>by unfold Z7;rw[h1,decide_eq_true (by omega)];rfl
 have one:∀i k,i < (ofC (Zl [l] 1 9)).length→k < (ofC (Zl [l] 1 9)).length→clB (ofC (Zl [l] 1 9)) i k=false:=fun i k hi hk=>by
  obtain ⟨a0,a1,_⟩:=ZpV p1 hi
  obtain ⟨b0,b1,_⟩:=ZpV p1 hk
  have:(Zl [l] 1 9).2.length≤1:=p2
  cases hc:clB (ofC (Zl [l] 1 9)) i k with
  | false=>rfl
  | true=>exact absurd (show thA _ i=thA _ k by omega) (ZwB hc)
 obtain ⟨e1,e2⟩:=ZuB one
 rw[Zg,if_pos (kP _ p1 (by omega)),e1,Zg,if_neg (by decide),Zg,if_pos (show ZQ (Zl [l] 1 9) 0=true from p1),e2,Zg,if_neg (by decide),Zg,if_pos qk]
 generalize hq:Zl m 3 6=q at*
 have hql:q.2.length≤3:=q2
 have tl:∀t∈q.2,List.length t < 1099511627776:=fun t ht=>(smallT ((smallA q1).thr t ht)).len
 have fin:Goes T (.jmp (.l8 (q.2.length:Int) (q.2.map (List.map noW)))) true:=by
  have s1:smallAll (q.1,q.2.map (List.map noW))=true:=ZrO ZvL q1
  have s2:(ofC (q.1,q.2.map (List.map noW))).length≤100000:=by
   have:=ZxB (f:=noW) (p:=q) (by rw[←hq];exact Zvh m (by decide) (by decide) (by decide) (by decide))
   omega
  obtain ⟨c1,c2⟩:=ZuB (p:=(q.1,q.2.map (List.map noW))) fun i k hi hk=>Zub (ZsV hi) (ZsV hk)
  rw[Zm,hT,Z9,hq,List.length_map,Zg,if_neg (by rw[ZO (Nat.lt_irrefl _)];decide),Zg,if_pos (kP _ s1 s2),c1,Zg,if_pos (by decide),Zg,if_pos (show ZQ _ 0=true from s1),c2,Zg,if_pos (by decide),Zg,if_pos ka,va]
  exact .leaf
 have loop:∀t,t≤q.2.length→Goes T (.jmp (.l8 (t:Int) (mapQ noW q.2 t 0))) true:=by
  refine down ?_ fun t ht iht=>?_
  ·rw[Zxh];exact fin
  ·have htl:=tl q.2[t] (List.getElem_mem ht)
   have inner:∀i,i≤List.length q.2[t]→Goes T (.jmp (.l13 (i:Int) (mapQ noW q.2 t i) (t:Int))) true:=by
    refine down ?_ fun i hi ihi=>?_
    ·rw[Zm,hT,Z9,←hT,Int.toNat_natCast,ZqS ht,Zux ht,Zuz (Nat.le_refl _),Zg,if_pos (ZaC ht),Zg,if_neg (by rw[ZO (Nat.lt_irrefl _)];decide),ZF (by omega),Zwf ht]
     exact iht
    ·have same:∀y,noW (q.2[t])[i]=y→List.set (mapQ noW q.2 t i) t (List.set (mapR noW q.2[t] i) i y)=mapQ noW q.2 t (i+1):=fun y e=>by
      rw[←e,ZuL hi,Zxd ht]
     rw[Zm,hT,Z9,←hT,Int.toNat_natCast,ZqS ht,Zux ht,Zuz (Nat.le_of_lt hi),Int.toNat_natCast,Zxo hi]
     rw[Zg,if_pos (ZaC ht),Zg,if_pos (Zam hi),Zg,if_pos (ZaC ht),Zg,if_pos (ZaC hi),ZF (by omega),Zg]
     by_cases c3:((q.2[t])[i].2.2.2.1.1==(3:Int))=true
     ·rw[if_pos c3,Zg,if_pos (ZaC ht),Zg,if_pos (ZaC hi),same _ (by unfold noW;rw[if_pos (.inl c3)])]
      exact ihi
     ·rw[if_neg c3,Zg]
      by_cases c4:((q.2[t])[i].2.2.2.1.1==(4:Int))=true
      ·rw[if_pos c4,Zg,if_pos (ZaC ht),Zg,if_pos (ZaC hi),same _ (by unfold noW;rw[if_pos (.inr c4)])]
       exact ihi
      ·rw[if_neg c4]
       have hno:noW (q.2[t])[i]=(q.2[t])[i]:=by unfold noW;rw[if_neg (fun h=>h.elim c3 c4)]
       have e:mapQ noW q.2 t (i+1)=mapQ noW q.2 t i:=by rw[Zkw ht,Zkw ht,Zwu hi hno]
       rw[e] at ihi
       exact ihi
   have h0:=inner 0 (Nat.zero_le _)
   rw[Zm,hT,Z9,←hT,ZqS ht,Zg,if_pos (Zam ht)]
   exact h0
 have:=loop 0 (Nat.zero_le _)
 rw[ZvU] at this
 exact this
end Go.Ev
end

section
open Go Go.Ev
namespace Go.Ev
noncomputable section
theorem Zks (l:List (El Zf)) (m:List (List (El Zf))) (hk:ZfT l m=true):CallOK Go.Proofs.Tryd.prog 3 (toForms ZG (l,m,())) (ZbH (Zdo l m),tps (toForms ZG (l,m,()))):=by
 obtain ⟨h1,h2⟩:=ZlE Zkc
 obtain ⟨n,hn⟩:=Zs (c:=ZbK) (K:=fun v=>(ZbH v,tps (toForms ZG (l,m,())))) (S:=Zab l m) (by kernel_rfl) (Zkm l m) (Zj7 l m) (ZkC l m hk)
 exact Zk4 (f:=3) (c:=ZbK) h1 h2 (by kernel_rfl) (by kernel_rfl) (by kernel_rfl) hn
end
end Go.Ev
end

section
namespace Go.Ev
open Go
theorem Zio (a:Args ZG) (ha:smallArgs ZG a):CallOK Go.Proofs.Tryd.prog ZjC (toForms ZG a) (.d .bool true,tps (toForms ZG a)):=by
 obtain ⟨l,m,_⟩:=a
 exact Zks l m rfl
end Go.Ev
end

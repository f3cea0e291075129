/- Part of the proof of: In any thread that the book makes, with each of its fences turned into nothing, there is a free way, past no points, to just the instructions to which one comes at all: for every input the law answers true. -/
import Derived.Shelf.Slices.In.SortNone
import Derived.Shelf.Sort.Plain
import Derived.Test.YtdpoelielnbhkaaDoorCon0
set_option maxRecDepth 100000
set_option linter.unusedSectionVars false
set_option linter.unusedVariables false
set_option linter.unusedSimpArgs false
section
open Go Go.Ev
namespace Go.Ev
def renSort:Go.Shelf.Ren:=⟨fun n=>if n=189 then 33 else if n=125 then 46 else if n=257 then 45 else if n=128 then 69 else if n=129 then 70 else if n=294 then 60 else if n=295 then 61 else if n=296 then 62 else if n=297 then 63 else if n=298 then 64 else if n=299 then 65 else if n=216 then 66 else if n=300 then 67 else if n=301 then 68 else if n=328 then 79 else if n=329 then 80 else if n=330 then 81 else if n=331 then 82 else if n=332 then 83 else if n=215 then 84 else if n=343 then 90 else n,
 fun n=>if n=28 then 40 else if n=46 then 68 else if n=51 then 98 else if n=53 then 67 else if n=183 then 90 else if n=182 then 89 else if n=131 then 95 else if n=218 then 116 else if n=222 then 120 else if n=228 then 130 else if n=229 then 111 else n,
 fun n=>n⟩
theorem Znj:Go.Proofs.Lays.n189 Go.Proofs.Tryd.prog renSort where
 mixed:=by kernel_rfl
 f125:=by kernel_rfl
 f128:=by kernel_rfl
 f129:=by kernel_rfl
 f189:=by kernel_rfl
 f215:=by kernel_rfl
 f216:=by kernel_rfl
 f257:=by kernel_rfl
 f294:=by kernel_rfl
 f295:=by kernel_rfl
 f296:=by kernel_rfl
 f297:=by kernel_rfl
 f298:=by kernel_rfl
 f299:=by kernel_rfl
 f300:=by kernel_rfl
 f301:=by kernel_rfl
 f328:=by kernel_rfl
 f329:=by kernel_rfl
 f330:=by kernel_rfl
 f331:=by kernel_rfl
 f332:=by kernel_rfl
 f343:=by kernel_rfl
 t0:=by kernel_rfl
 a0:=fun w=>by kernel_rfl
 z0:=fun w=>by kernel_rfl
 v0:=fun w=>by kernel_rfl
 t3:=by kernel_rfl
 a3:=fun w=>by kernel_rfl
 z3:=fun w=>by kernel_rfl
 v3:=fun w=>by kernel_rfl
 t4:=by kernel_rfl
 a4:=fun w=>by kernel_rfl
 z4:=fun w=>by kernel_rfl
 v4:=fun w=>by kernel_rfl
 t5:=by kernel_rfl
 a5:=fun w=>by kernel_rfl
 z5:=fun w=>by kernel_rfl
 v5:=fun w=>by kernel_rfl
 t9:=by kernel_rfl
 a9:=fun w=>by kernel_rfl
 z9:=fun w=>by kernel_rfl
 v9:=fun w=>by kernel_rfl
 t28:=by kernel_rfl
 a28:=fun w=>by kernel_rfl
 z28:=fun w=>by kernel_rfl
 v28:=fun w=>by kernel_rfl
 t46:=by kernel_rfl
 a46:=fun w=>by kernel_rfl
 z46:=fun w=>by kernel_rfl
 v46:=fun w=>by kernel_rfl
 t51:=by kernel_rfl
 a51:=fun w=>by kernel_rfl
 z51:=fun w=>by kernel_rfl
 v51:=fun w=>by kernel_rfl
 t53:=by kernel_rfl
 a53:=fun w=>by kernel_rfl
 z53:=fun w=>by kernel_rfl
 v53:=fun w=>by kernel_rfl
 t131:=by kernel_rfl
 a131:=fun w=>by kernel_rfl
 z131:=fun w=>by kernel_rfl
 v131:=fun w=>by kernel_rfl
 t182:=by kernel_rfl
 a182:=fun w=>by kernel_rfl
 z182:=fun w=>by kernel_rfl
 v182:=fun w=>by kernel_rfl
 t183:=by kernel_rfl
 a183:=fun w=>by kernel_rfl
 z183:=fun w=>by kernel_rfl
 v183:=fun w=>by kernel_rfl
 t218:=by kernel_rfl
 a218:=fun w=>by kernel_rfl
 z218:=fun w=>by kernel_rfl
 v218:=fun w=>by kernel_rfl
 t222:=by kernel_rfl
 a222:=fun w=>by kernel_rfl
 z222:=fun w=>by kernel_rfl
 v222:=fun w=>by kernel_rfl
 t228:=by kernel_rfl
 a228:=fun w=>by kernel_rfl
 z228:=fun w=>by kernel_rfl
 v228:=fun w=>by kernel_rfl
 t229:=by kernel_rfl
 a229:=fun w=>by kernel_rfl
 z229:=fun w=>by kernel_rfl
 v229:=fun w=>by kernel_rfl
theorem sortOK:SortOK Go.Proofs.Tryd.prog 33:=⟨fun blk off cap zs w h1 h2 h3=>Go.Proofs.Any.slices_Sort_int Znj blk off cap zs w h1 h2 h3,fun p cap w=>Go.Proofs.Any.slices_Sort_int_none Znj p cap w⟩
end Go.Ev
end

section
open Go Go.Ev
namespace Go.Ev
def ZiT:PSig:=[.obj 65 [(.d (.int .i64)),(.m (.int .i64) (.int .u64))]]
def Zbu (s:Int×List (Int×Int)):(List Int)×Int×List (Int×Int):=(listS s,s)
def ZaR (s:Int×List (Int×Int)):Bool:=Nat.ble (s.2.length*512) limit
def ZjH:(List Int)×Int×List (Int×Int)→Ans:=Zeo
section
abbrev SetL:=List (El (.int .i64)×El (.int .u64))
noncomputable def setListBody:Code:=Go.Proofs.Tryd.f20.body.getD .skip
noncomputable def setListR:Code:=fstC (sndC (sndC (sndC setListBody)))
noncomputable def setListX:RangeText:=rangeText (sndC setListR)
noncomputable def setListSort:Code:=fstC (sndC (sndC (sndC (sndC setListBody))))
def setLab1:Lab:=⟨[0,3,4],[]⟩
def setLab2:Lab:=⟨[0,3,4,15],[(4,80)]⟩
def setObs (s:Int×SetL) (ps:List (El (.int .i64))):List (Id×Nat×Obj):=[(1,0,.box 65 [.d (.int .i64) s.1,.mp 1026 0] (some 0)),(4,0,.row 3 (.int .i64) ps false),(1026,0,.gone (some 1000))]
def setK (s:Int×SetL) (v:Value) (ps:List (El (.int .i64))):St:=⟨mkTm 56 [(0,.pt 1 0 0),(3,.own 4 0 none),(4,.nil),(15,.cst v)],setObs s ps⟩
def setI (s:Int×SetL) (v:Value) (done:SetL):St:=setK s v (done.map Prod.fst)
def setT (s:Int×SetL) (v:Value) (done:SetL) (e:El (.int .i64)×El (.int .u64)):St:=((setI s v done).put (some 16) (.tu [mkB true,.d (.int .i64) e.1,.d (.int .u64) e.2])).put (some 17) (mkB true)
def setU (s:Int×SetL) (v:Value) (done:SetL) (e:El (.int .i64)×El (.int .u64)):St:=(((setT s v done e).put (some 18) (.tu [.d (.int .i64) e.1,.d (.int .u64) e.2])).put (some 19) (.d (.int .i64) e.1)).put (some 5) (.d (.int .i64) e.1)
def setE (s:Int×SetL) (v:Value) (done:SetL):St:=((setI s v done).put (some 16) (.tu [mkB false])).put (some 17) (mkB false)
def setA (s:Int×SetL):St:=⟨mkTm 56 [(0,.pt 1 0 0)],[(1,0,.box 65 [.d (.int .i64) s.1,.mp 1026 0] (some 0)),(1026,0,.map (.int .i64) (.int .u64) s.2)]⟩
def setC (s:Int×SetL):St:=⟨mkTm 56 [(0,.pt 1 0 0),(3,.nil),(4,.nil)],[(1,0,.box 65 [.d (.int .i64) s.1,.mp 1026 0] (some 0)),(1026,0,.map (.int .i64) (.int .u64) s.2)]⟩
def setM (s:Int×SetL):St:=((((setC s).put (some 11) (.pt 1 0 0)).put (some 12) (.pt 1 0 0)).put (some 13) (.pt 1 0 1)).put (some 14) (.mp 1026 0)
theorem Zvf:setListX.OK:=⟨by kernel_rfl,by kernel_rfl,by kernel_rfl,by kernel_rfl,by kernel_rfl,by kernel_rfl,by kernel_rfl,by kernel_rfl,by kernel_rfl⟩
theorem Zsh (s:Int×SetL) (v:Value) (done:SetL) (e:El (.int .i64)×El (.int .u64)) (L:Lt) (k:Kt) (x:Nat→Kt) (r:Kt):
  evC Go.Proofs.Tryd.prog (clOf []) [] L setListX.cr 0 (fun t=>k (norm Go.Proofs.Tryd.prog setLab2 t)) x r (setU s v done e)=bif Nat.ble (((done.map Prod.fst).length+1)*8) limit then k (setK s v (done.map Prod.fst++[e.1])) else none:=by kernel_rfl
theorem Zw7 (s:Int×SetL) (hk:ZaR s=true):RangeEv Go.Proofs.Tryd.prog (clOf []) setListX s.2 setLab2 1026 1000 (setI s) (setE s) (setT s) (setU s) where
 it:=fun v done=>by kernel_rfl
 r1:=fun v done e k=>by kernel_rfl
 rt:=fun v done e=>by kernel_rfl
 re:=fun v done e=>by kernel_rfl
 r2:=fun v done e k=>by kernel_rfl
 r3:=fun v done e rest hp L k x r=>by
  have hl:=hp.length_eq
  simp only[List.length_append,List.length_cons] at hl
  have hlim:s.2.length*512≤limit:=Nat.le_of_ble_eq_true hk
  rw[Zsh,List.length_map,Nat.ble_eq_true_of_le (by omega),cond_true]
  unfold setI
  rw[List.map_append]
  rfl
 f1:=fun v done k=>by kernel_rfl
 ft:=fun v done=>by kernel_rfl
theorem Zte:setListBody=.seq (fstC setListBody) (.seq (fstC (sndC setListBody)) (.seq (fstC (sndC (sndC setListBody))) (.seq (.seq (.region (ridC (fstC setListR)) (ropsC (fstC setListR)) false) setListX.code) (.seq (.region (ridC setListSort) (ropsC setListSort) false) Zeb)))):=by kernel_rfl
theorem Zxr (s:Int×SetL) (L:Lt) (k:Kt) (x:Nat→Kt) (r:Kt):evC Go.Proofs.Tryd.prog (clOf []) [] L (fstC setListBody) 0 (fun t=>k (norm Go.Proofs.Tryd.prog setLab1 t)) x r (setA s)=k (setA s):=by kernel_rfl
theorem Zxs (s:Int×SetL) (L:Lt) (k:Kt) (x:Nat→Kt) (r:Kt):evC Go.Proofs.Tryd.prog (clOf []) [] L (fstC (sndC setListBody)) 0 (fun t=>k (norm Go.Proofs.Tryd.prog setLab1 t)) x r (setA s)=k (setA s):=by kernel_rfl
theorem ZxH (s:Int×SetL) (L:Lt) (k:Kt) (x:Nat→Kt) (r:Kt):evC Go.Proofs.Tryd.prog (clOf []) [] L (fstC (sndC (sndC setListBody))) 0 (fun t=>k (norm Go.Proofs.Tryd.prog setLab1 t)) x r (setA s)=k (setC s):=by kernel_rfl
def mapKV (P:Program) (T:TypeId):TypeId×TypeId:=match P.underlying T with | some (.map K V)=>(K,V) | _=>(0,0)
theorem ZkD (s:Int×SetL) (hk:ZaR s=true):CallOK Go.Proofs.Tryd.prog 20 (toPs ZiT (s,())) (ZjH (Zbu s)):=by
 obtain ⟨hcl,hdet⟩:=ZmK (P:=Go.Proofs.Tryd.prog) Zn
 have hlim:s.2.length*512≤limit:=Nat.le_of_ble_eq_true hk
 refine ZtA (tb:=Zao) (fn:=Go.Proofs.Tryd.f20) (c:=setListBody) (vs:=[.pt 1 0 0]) (st:=⟨[],[(1,0,.box 65 [.d (.int .i64) s.1,.mp 1026 0] (some 0)),(1026,0,.map (.int .i64) (.int .u64) s.2)]⟩) (by kernel_rfl) (by kernel_rfl) (by kernel_rfl) ?_
 intro _ Mod F0 w0 a w hr
 have hr:Rel Mod F0 w0 (setA s) a w:=hr
 rw[Zte]
 refine wp_seq (piece hcl hdet (norm Go.Proofs.Tryd.prog setLab1) (fun h=>Zkd h) (Zxr s) hr fun a w hr=>?_)
 refine wp_seq (piece hcl hdet (norm Go.Proofs.Tryd.prog setLab1) (fun h=>Zkd h) (Zxs s) hr fun a w hr=>?_)
 refine wp_seq (piece hcl hdet (norm Go.Proofs.Tryd.prog setLab1) (fun h=>Zkd h) (ZxH s) hr fun a w hr=>?_)
 refine wp_seq (wp_seq (wp_region ?_))
 rw[show List.range (ropsC (fstC setListR)).size=[0,1,2,3,4] from by kernel_rfl]
 refine evOp hcl (o:=opC (fstC setListR) 0) (st1:=(setC s).put (some 11) (.pt 1 0 0)) (by kernel_rfl) (by kernel_rfl) (fun k=>by kernel_rfl) hr fun a w hr=>?_
 refine evOp hcl (o:=opC (fstC setListR) 1) (st1:=((setC s).put (some 11) (.pt 1 0 0)).put (some 12) (.pt 1 0 0)) (by kernel_rfl) (by kernel_rfl) (fun k=>by kernel_rfl) hr fun a w hr=>?_
 refine evOp hcl (o:=opC (fstC setListR) 2) (st1:=(((setC s).put (some 11) (.pt 1 0 0)).put (some 12) (.pt 1 0 0)).put (some 13) (.pt 1 0 1)) (by kernel_rfl) (by kernel_rfl) (fun k=>by kernel_rfl) hr fun a w hr=>?_
 refine evOp hcl (o:=opC (fstC setListR) 3) (st1:=setM s) (by kernel_rfl) (by kernel_rfl) (fun k=>by kernel_rfl) hr fun a w hr=>?_
 refine handOp (o:=opC (fstC setListR) 4) (by kernel_rfl) (by kernel_rfl) ?_
 refine rangeLoop (tm:=14) (idm0:=1026) (ver0:=0) (T:=(match (opC (fstC setListR) 4).op with |.range T _=>T | _=>0)) (K:=(mapKV Go.Proofs.Tryd.prog (match (opC (fstC setListR) 4).op with |.range T _=>T | _=>0)).1) (V:=(mapKV Go.Proofs.Tryd.prog (match (opC (fstC setListR) 4).op with |.range T _=>T | _=>0)).2)
  hcl hdet Zvf rfl rfl (Zw7 s hk) (by kernel_rfl) (by kernel_rfl) (by kernel_rfl) (by kernel_rfl) (by kernel_rfl) (by kernel_rfl) (fun v=>by kernel_rfl) (fun v done=>by kernel_rfl) (fun v done=>by kernel_rfl) hr ?_
 intro v done a w hperm hr
 have hr:Rel Mod F0 w0 (Zb6 s (done.map Prod.fst)) a w:=Zkd (P:=Go.Proofs.Tryd.prog) (lab:=setLab1) hr
 refine wp_seq (wp_region ?_)
 rw[show List.range (ropsC setListSort).size=[0,1] from by kernel_rfl]
 refine evOp hcl (o:=opC setListSort 0) (st1:=(Zb6 s (done.map Prod.fst)).put (some 24) (.own 4 0 none)) (by kernel_rfl) (by kernel_rfl) (fun k=>by kernel_rfl) hr fun a w hr=>?_
 refine handOp (o:=opC setListSort 1) (by kernel_rfl) (by kernel_rfl) ?_
 refine sortStep (ts:=24) (id:=4) (ver:=0) (E:=3) (l:=done.map Prod.fst) (c:=(match (opC setListSort 1).op with |.call c=>c | _=>default)) (fn:=Go.Proofs.Tryd.f33) (body:=Go.Proofs.Tryd.f33.body.getD .skip) (by kernel_rfl) (by kernel_rfl) (by kernel_rfl) (by kernel_rfl) (by kernel_rfl) (by kernel_rfl) (by kernel_rfl) (by kernel_rfl) sortOK (by
  rw[List.length_map,hperm.length_eq]
  unfold limit at hlim
  omega) hr fun a w hr=>?_
 have hr:Rel Mod F0 w0 (Zb6 s (sorted (done.map Prod.fst))) a w:=Zkd (P:=Go.Proofs.Tryd.prog) (lab:=setLab1) hr
 rw[ZvN (hperm.map Prod.fst)] at hr
 have hg:=ZmS s (sorted (s.2.map Prod.fst)) (by rw[List.length_mergeSort,List.length_map];exact hk)
 exact tailStep hcl hdet (ps:=Zgt s (sorted (s.2.map Prod.fst))) rfl (by kernel_rfl) (Zl9 s _) (Zl3 s _) hg hr
end
noncomputable def Zf6:Run:=entO ZiT ZjH (fun a=>ZaR a.1) (fun a=>Zbu a.1)
theorem ZiZ:EntOK Go.Proofs.Tryd.prog 20 Zf6:=Zx9 (ZrK (ZrX (fn:=Go.Proofs.Tryd.f20) (c:=setListBody) (by kernel_rfl) (by kernel_rfl) (by kernel_rfl))) fun a h=>ZkD a.1 h
end Go.Ev
end

section
open Go Go.Ev
namespace Go.Ev
noncomputable section
def Zdz:Sig:=[(true,(.sl Za)),(false,(.sl (.int .i64))),(false,(.int .i64))]
noncomputable def ZlC:Tbl:=[(15,ZmV),(16,Zg4),(17,Zk6),(18,Zhb),(19,ZoV),(20,Zf6)]
theorem ZuF:∀p∈ZlC,EntOK Go.Proofs.Tryd.prog p.1 p.2:=Zg ZoP (Zg ZjG (Zg ZnK (Zg Zjy (Zg ZuH (Zg ZiZ (Zn))))))
noncomputable def Ziw:Code:=Go.Proofs.Tryd.f8.body.getD .skip
def Zjj:Tb:=[(4,⟨[2,3,7,8,23,24,25],[]⟩),(11,⟨[3,7,8,11],[(1000000000000000000000000000000000000000000000000000000000012,1)]⟩),(17,⟨[3,7,8,11,51,52,53],[(1000000000000000000000000000000000000000000000000000000000012,1)]⟩)]
inductive Zfy where | l4 (h:Int) (closed:Int) (closed1:List (Int×Int)) | l11 (closed:Int) (closed1:List (Int×Int)) (len:Nat) (seen:Int) (open_:List Int) (seen1:List (Int×Int)) | l17 (closed:Int) (closed1:List (Int×Int)) (len:Nat) (h:Int) (seen:Int) (open_:List Int) (seen1:List (Int×Int)) (h1:Int) (h2:List Int)
def ZaE (t:List (El Za)) (points:List Int) (s:Int):Zfy→JT Zfy (List Int) |.l4 h closed closed1=>.br (decide (h < (Int.ofNat (List.length points)))) (.br ((decide ((0:Int)≤h))&&(decide (h < (Int.ofNat (List.length points))))) (.jmp (.l4 (IntKind.i64.wrap (h+(1:Int))) (Zs (closed,closed1) (List.getD points (Int.toNat h) (dflt (.int .i64)))).2.1 (Zs (closed,closed1) (List.getD points (Int.toNat h) (dflt (.int .i64)))).2.2)) (.no)) (.jmp (.l11 closed closed1 1 (ZaB (Int.ofNat (List.length t))).1 [s] (ZaB (Int.ofNat (List.length t))).2)) |.l11 closed closed1 len seen open_ seen1=>.br (decide ((Int.ofNat len) > (0:Int))) (.br ((decide ((0:Int)≤(IntKind.i64.wrap ((Int.ofNat len) - (1:Int)))))&&(decide ((IntKind.i64.wrap ((Int.ofNat len) - (1:Int))) < (Int.ofNat len)))) (.br ((decide ((0:Int)≤(IntKind.i64.wrap ((Int.ofNat len) - (1:Int)))))&&(decide ((IntKind.i64.wrap ((Int.ofNat len) - (1:Int)))≤(Int.ofNat len)))) (.br (Zct t (List.getD open_ (Int.toNat (IntKind.i64.wrap ((Int.ofNat len) - (1:Int)))) (dflt (.int .i64)))) (.jmp (.l17 closed closed1 (Int.toNat (IntKind.i64.wrap ((Int.ofNat len) - (1:Int)))) (0:Int) seen open_ seen1 (Int.ofNat (List.length (ZB t (List.getD open_ (Int.toNat (IntKind.i64.wrap ((Int.ofNat len) - (1:Int)))) (dflt (.int .i64)))))) (ZB t (List.getD open_ (Int.toNat (IntKind.i64.wrap ((Int.ofNat len) - (1:Int)))) (dflt (.int .i64)))))) (.no)) (.no)) (.no)) (.br (ZaR (seen,seen1)) (.leaf (Zbu (seen,seen1)).1) (.no)) |.l17 closed closed1 len h seen open_ seen1 h1 h2=>.br (decide (h < h1)) (.br ((decide ((0:Int)≤h))&&(decide (h < (Int.ofNat (List.length h2))))) (.br (! (Zt (closed,closed1) (List.getD h2 (Int.toNat h) (dflt (.int .i64)))).1) (.br (Zs (seen,seen1) (List.getD h2 (Int.toNat h) (dflt (.int .i64)))).1 (.br ((decide ((0:Int)≤(List.getD h2 (Int.toNat h) (dflt (.int .i64)))))&&(decide ((List.getD h2 (Int.toNat h) (dflt (.int .i64))) < (Int.ofNat (List.length t))))) (.br (ZcA (List.getD t (Int.toNat (List.getD h2 (Int.toNat h) (dflt (.int .i64)))) (dflt Za))) (.br (! (Zcl (List.getD t (Int.toNat (List.getD h2 (Int.toNat h) (dflt (.int .i64)))) (dflt Za)))) (.br (Nat.ble (((List.length (List.take len open_))+1)*8) limit) (.jmp (.l17 (Zt (closed,closed1) (List.getD h2 (Int.toNat h) (dflt (.int .i64)))).2.1 (Zt (closed,closed1) (List.getD h2 (Int.toNat h) (dflt (.int .i64)))).2.2 (List.length ((List.take len open_)++[(List.getD h2 (Int.toNat h) (dflt (.int .i64)))])) (IntKind.i64.wrap (h+(1:Int))) (Zs (seen,seen1) (List.getD h2 (Int.toNat h) (dflt (.int .i64)))).2.1 ((List.take len open_)++[(List.getD h2 (Int.toNat h) (dflt (.int .i64)))]) (Zs (seen,seen1) (List.getD h2 (Int.toNat h) (dflt (.int .i64)))).2.2 h1 h2)) (.no)) (.jmp (.l17 (Zt (closed,closed1) (List.getD h2 (Int.toNat h) (dflt (.int .i64)))).2.1 (Zt (closed,closed1) (List.getD h2 (Int.toNat h) (dflt (.int .i64)))).2.2 len (IntKind.i64.wrap (h+(1:Int))) (Zs (seen,seen1) (List.getD h2 (Int.toNat h) (dflt (.int .i64)))).2.1 open_ (Zs (seen,seen1) (List.getD h2 (Int.toNat h) (dflt (.int .i64)))).2.2 h1 h2))) (.no)) (.no)) (.jmp (.l17 (Zt (closed,closed1) (List.getD h2 (Int.toNat h) (dflt (.int .i64)))).2.1 (Zt (closed,closed1) (List.getD h2 (Int.toNat h) (dflt (.int .i64)))).2.2 len (IntKind.i64.wrap (h+(1:Int))) (Zs (seen,seen1) (List.getD h2 (Int.toNat h) (dflt (.int .i64)))).2.1 open_ (Zs (seen,seen1) (List.getD h2 (Int.toNat h) (dflt (.int .i64)))).2.2 h1 h2))) (.jmp (.l17 (Zt (closed,closed1) (List.getD h2 (Int.toNat h) (dflt (.int .i64)))).2.1 (Zt (closed,closed1) (List.getD h2 (Int.toNat h) (dflt (.int .i64)))).2.2 len (IntKind.i64.wrap (h+(1:Int))) seen open_ seen1 h1 h2))) (.no)) (.jmp (.l11 closed closed1 len seen open_ seen1))
def Zj1 (t:List (El Za)) (points:List Int) (s:Int):JT Zfy (List Int):=.jmp (.l4 (0:Int) (ZaB (Int.ofNat (List.length t))).1 (ZaB (Int.ofNat (List.length t))).2)
def Zik:List Int→AV:=fun (r:List Int)=>.rw 3 (.int .i64) r
def Zdc (t:List (El Za)) (points:List Int) (s:Int):Zfy→Nat×St |.l4 h closed closed1=>(4,⟨mkTm 82 [(2,.d (.int .i64) s),(3,.pt 4 0 0),(7,.pt 8 0 0),(8,.pt 9 0 0),(23,.d (.sl (.int .i64)) points),(24,.d (.int .i64) (Int.ofNat (List.length points))),(25,.d (.int .i64) h)],[(4,0,.box 31 [.d (.sl Za) t] none),(8,0,.box 65 [.d (.int .i64) closed,.mp 8194 0] none),(9,0,.box 65 [.d (.int .i64) (ZaB (Int.ofNat (List.length t))).1,.mp 9218 0] none),(8194,0,.map (.int .i64) (.int .u64) closed1),(9218,0,.map (.int .i64) (.int .u64) (ZaB (Int.ofNat (List.length t))).2)]⟩) |.l11 closed closed1 len seen open_ seen1=>(11,⟨mkTm 82 [(3,.pt 4 0 0),(7,.pt 8 0 0),(8,.pt 9 0 0),(11,.own 12 0 (some len))],[(4,0,.box 31 [.d (.sl Za) t] none),(8,0,.box 65 [.d (.int .i64) closed,.mp 8194 0] none),(9,0,.box 65 [.d (.int .i64) seen,.mp 9218 0] none),(12,0,.row 3 (.int .i64) open_ false),(8194,0,.map (.int .i64) (.int .u64) closed1),(9218,0,.map (.int .i64) (.int .u64) seen1)]⟩) |.l17 closed closed1 len h seen open_ seen1 h1 h2=>(17,⟨mkTm 82 [(3,.pt 4 0 0),(7,.pt 8 0 0),(8,.pt 9 0 0),(11,.own 12 0 (some len)),(51,.own 52 0 none),(52,.d (.int .i64) h1),(53,.d (.int .i64) h)],[(4,0,.box 31 [.d (.sl Za) t] none),(8,0,.box 65 [.d (.int .i64) closed,.mp 8194 0] none),(9,0,.box 65 [.d (.int .i64) seen,.mp 9218 0] none),(12,0,.row 3 (.int .i64) open_ false),(52,0,.row 3 (.int .i64) h2 false),(8194,0,.map (.int .i64) (.int .u64) closed1),(9218,0,.map (.int .i64) (.int .u64) seen1)]⟩)
theorem ZuG (t:List (El Za)) (points:List Int) (s:Int) (L:Lt):entryA Go.Proofs.Tryd.prog (clOf ZlC) Zjj Go.Proofs.Tryd.f8 Ziw L (toForms Zdz (t,points,s,()))=(Zj1 t points s).run (fun v=>some (Zik v,tps (toForms Zdz (t,points,s,())))) fun j=>L (Zdc t points s j).1 (Zdc t points s j).2:=by kernel_rfl
theorem Zta (t:List (El Za)) (points:List Int) (s:Int):∀(L:Lt) (j:Zfy),procOf (procsF Go.Proofs.Tryd.prog (clOf ZlC) Zjj Go.Proofs.Tryd.f8 Ziw (toForms Zdz (t,points,s,()))) (Zdc t points s j).1 L (Zdc t points s j).2=(ZaE t points s j).run (fun v=>some (Zik v,tps (toForms Zdz (t,points,s,())))) fun j=>L (Zdc t points s j).1 (Zdc t points s j).2 | L,.l4 h closed closed1=>by kernel_rfl | L,.l11 closed closed1 len seen open_ seen1=>by kernel_rfl | L,.l17 closed closed1 len h seen open_ seen1 h1 h2=>by kernel_rfl
end
end Go.Ev
end

section
open Go
namespace Go.Ev
inductive Come (N:Nat→Nat→Bool) (A:Nat→Bool):Nat→Prop
 | start {j:Nat} :A j=true→Come N A j
 | step {k j:Nat} :Come N A k→N k j=true→Come N A j
noncomputable def comeB (N:Nat→Nat→Bool) (A:Nat→Bool) (j:Nat):Bool:= @decide (Come N A j) (Classical.propDecidable _)
theorem ZlK {N:Nat→Nat→Bool} {A:Nat→Bool} {j:Nat} :comeB N A j=true↔Come N A j:= @decide_eq_true_iff _ (Classical.propDecidable _)
theorem ZlU {N:Nat→Nat→Bool} {A M:Nat→Bool} (h1:∀j,A j=true→M j=true) (h2:∀k j,M k=true→N k j=true→M j=true) (h3:∀j,M j=true→Come N A j) (j:Nat):M j=comeB N A j:=by
 rw[Bool.eq_iff_iff,ZlK]
 refine ⟨h3 j,fun h=>?_⟩
 induction h with
 | start h=>exact h1 _ h
 | step _ h ih=>exact h2 _ _ ih h
theorem Zxx {N:Nat→Nat→Bool} {A:Nat→Bool} {n:Nat} (hA:∀j,A j=true→j < n) (hN:∀k j,N k j=true→j < n) {j:Nat} (h:Come N A j):j < n:=by
 cases h with
 | start h=>exact hA _ h
 | step _ h=>exact hN _ _ h
theorem Zx5 {N N':Nat→Nat→Bool} {A A':Nat→Bool} (hA:∀j,A j=true→A' j=true) (hN:∀k j,N k j=true→N' k j=true) {j:Nat} (h:Come N A j):Come N' A' j:=by
 induction h with
 | start h=>exact .start (hA _ h)
 | step _ h ih=>exact .step ih (hN _ _ h)
def card (n:Nat) (M:Nat→Bool):Nat:=(List.range n).countP M
theorem Zm7 {n:Nat} {M:Nat→Bool} :card n M≤n:=by
 have:=List.countP_le_length (p:=M) (l:=List.range n)
 simpa[card] using this
theorem Zwv {M:Nat→Bool} {i:Nat} (hM:M i=false):∀ {n:Nat},i < n→card n (fun j=>M j || (j==i))=card n M+1:=by
 intro n
 induction n with
 | zero=>intro h;omega
 | succ n ih=>
  intro h
  unfold card at*
  rw[List.range_succ,List.countP_append,List.countP_append]
  by_cases hi:i=n
  ·subst hi
   have e:(List.range i).countP (fun j=>M j || (j==i))=(List.range i).countP M:=List.countP_congr fun j hj=>by
    have:=List.mem_range.1 hj
    have:(j==i)=false:=by simp;omega
    rw[this,Bool.or_false]
   rw[e]
   simp[hM]
  ·rw[ih (by omega)]
   have:(n==i)=false:=by simp;omega
   simp[this]
   omega
theorem Zmm {n:Nat} {M:Nat→Bool} :(listOf n M).length=card n M:=by
 unfold listOf card
 rw[List.length_map,List.countP_eq_length_filter]
end Go.Ev
end

section
open Go
namespace Go.Ev
noncomputable def fromB (t:List (El Za)) (i:Int) (j:Nat):Bool:=comeB (fun k j=>nextB t (k:Int) j) (nextB t i) j
end Go.Ev
end

section
open Go
namespace Go.Ev
theorem Zza {i:El Za} (h:smallText i.2.2.2.2.2.1=true):ZcA i=true:=by
 have h0:Zak i=true:=h
 have a:Z7 i=true:=by unfold Z7;simp only[h0,cond_true,Bool.cond_self]
 unfold ZcA
 simp only[h0,a,cond_true,Bool.cond_self]
end Go.Ev
end

section
open Go
namespace Go.Ev
def fenceAtT (t:List (El Za)) (k:Nat):Bool:=Zcl (t.getD k (dflt Za))
def stepB (t:List (El Za)) (points:List Int) (k j:Nat):Bool:=!fenceAtT t k&&(nextB t (k:Int) j&& !points.contains (j:Int))
def firstB (t:List (El Za)) (points:List Int) (s:Int) (j:Nat):Bool:=nextB t s j&& !points.contains (j:Int)
noncomputable def endsB (t:List (El Za)) (points:List Int) (s:Int) (j:Nat):Bool:=comeB (stepB t points) (firstB t points s) j
end Go.Ev
end

section
open Go
namespace Go.Ev
noncomputable def Zk (t:List (El Za)) (points:List Int) (s:Int):List Int:=listOf t.length (endsB t points s)
def Zaj (t:List (El Za)) (points:List Int) (s:Int):Bool:=flowOK t&&decide (points.length < 4611686018427387904)
def goB (t:List (El Za)) (points:List Int) (x:Int) (j:Nat):Bool:=nextB t x j&& !points.contains (j:Int)
def nodeP (t:List (El Za)) (s:Int) (M:Nat→Bool) (x:Int):Prop:=x=s∨∃j:Nat,x=(j:Int)∧M j=true∧fenceAtT t j=false
theorem Zw6 {l:List Int} {n:Nat} (h:n+1≤l.length):l.take (n+1)=l.take n++[l.getD n 0]:=by
 have hn:n < l.length:=by omega
 rw[List.take_succ_eq_append_getElem hn,ZaI hn]
theorem Zvo (t:List (El Za)) (points:List Int) (s:Int) (hk:Zaj t points s=true):Goes (ZaE t points s) (Zj1 t points s) (Zk t points s):=by
 unfold Zaj at hk
 rw[Bool.and_eq_true] at hk
 obtain ⟨hf,hpl⟩:=hk
 have hpl:=of_decide_eq_true hpl
 have hlen:=Zfx hf
 generalize hn:t.length=n at hlen
 have kfe:∀k,k < n→ZcA (List.getD t k (dflt Za))=true:=fun k hk=>by
  have hmem:t.getD k (dflt Za)∈t:=by rw[ZaI (by omega)];exact List.getElem_mem (by omega)
  exact Zza (ZiP hf hmem)
 have main:∀(C:Nat→Bool) (cl:Int×List (Int×Int)),SetOK cl n C→(∀j,j < n→C j=points.contains (j:Int))→∀m,∀(M:Nat→Bool) (se:Int×List (Int×Int)) (open_:List Int) (len:Nat),len≤open_.length→2*(n - card n M)+len=m→SetOK se n M→
   (∀j,M j=true→Come (stepB t points) (firstB t points s) j)→(∀x∈open_.take len,nodeP t s M x)→(∀x,nodeP t s M x→x∈open_.take len∨∀j,goB t points x j=true→M j=true)→len≤card n M+1→
   Goes (ZaE t points s) (.jmp (.l11 cl.1 cl.2 len se.1 open_ se.2)) (Zk t points s):=by
  intro C cl hcl hC m
  induction m using Nat.strongRecOn with
  | _ m ih=>
  intro M se open_ len hl hm hs h1 h2 h3 h5
  cases len with
  | zero=>
   rw[Zq,ZaE,Zf,if_neg (by decide)]
   have hkl:ZaR (se.1,se.2)=true:=Nat.ble_eq_true_of_le (by have:=hs.few;unfold limit;show se.2.length*512≤_;omega)
   rw[Zf,if_pos hkl]
   have hv:(Zbu (se.1,se.2)).1=Zk t points s:=by
    show listS se=_
    rw[hs.list (by omega)]
    unfold Zk endsB
    rw[hn]
    refine Zjd fun j _=>ZlU (fun j hj=>?_) (fun k j hk hj=>?_) h1 j
    ·rcases h3 s (.inl rfl) with h | h
     ·simp at h
     ·exact h j hj
    ·unfold stepB at hj
     rw[Bool.and_eq_true] at hj
     rcases h3 (k:Int) (.inr ⟨k,rfl,hk,by simpa using hj.1⟩) with h | h
     ·simp at h
     ·exact h j hj.2
   rw[hv];exact .leaf
  | succ len=>
   have hc:= @Zm7 n M
   have e:IntKind.i64.wrap (Int.ofNat (len+1) - 1)=(len:Int):=by
    rw[wrap_i64 (by simp <;> omega) (by simp <;> omega)];simp
   have g1:decide (Int.ofNat (len+1) > (0:Int))=true:=decide_eq_true (by simp <;> omega)
   have g2:(decide ((0:Int)≤(len:Int))&&decide ((len:Int) < Int.ofNat (len+1)))=true:=Zcs (by omega)
   have g3:(decide ((0:Int)≤(len:Int))&&decide ((len:Int)≤Int.ofNat (len+1)))=true:=by simp;omega
   rw[Zq,ZaE,e,Zf,if_pos g1,Zf,if_pos g2,Zf,if_pos g3,Int.toNat_natCast]
   have htk:=Zw6 hl
   generalize hx0:open_.getD len 0=x0 at htk
   have hd:open_.getD len (dflt (.int .i64))=x0:=hx0
   rw[hd]
   have kn:Zct t x0=true:=hf
   rw[Zf,if_pos kn]
   have hnode:=h2 x0 (by rw[htk];simp)
   generalize hr:ZB t x0=r
   have hrm:∀y∈r,∃j:Nat,j < n∧nextB t x0 j=true∧y=(j:Int):=fun y hy=>by
    rw[←hr] at hy
    unfold ZB at hy
    rw[hn] at hy
    exact ZcD.1 hy
   have hrl:r.length≤n:=by rw[←hr];unfold ZB;rw[Zmm,hn];exact Zm7
   have hin:∀j:Nat,nextB t x0 j=true→(j:Int)∈r:=fun j hj=>by rw[←hr];exact ZcD.2 ⟨j,Zgr hj,hj,rfl⟩
   have inner:∀h,h≤r.length→∀(M1:Nat→Bool) (se1:Int×List (Int×Int)) (op1:List Int) (len1:Nat),len1≤op1.length→2*(n - card n M1)+len1 < m→SetOK se1 n M1→nodeP t s M1 x0→
     (∀j,M1 j=true→Come (stepB t points) (firstB t points s) j)→(∀x∈op1.take len1,nodeP t s M1 x)→(∀x,nodeP t s M1 x→x∈op1.take len1∨∀j,goB t points x j=true→M1 j=true∨(x=x0∧(j:Int)∈r.drop h))→len1≤card n M1+1→
     Goes (ZaE t points s) (.jmp (.l17 cl.1 cl.2 len1 (h:Int) se1.1 op1 se1.2 (Int.ofNat r.length) r)) (Zk t points s):=by
    refine down ?_ fun h hh ih2=>?_
    ·intro M1 se1 op1 len1 i1 i2 i3 i4 i5 i6 i7 i8
     rw[Zq,ZaE,Zf,if_neg (by rw[Za3 (Nat.lt_irrefl _)];decide)]
     refine ih _ i2 M1 se1 op1 len1 i1 rfl i3 i5 i6 (fun x hx=>(i7 x hx).imp id fun h j hj=>(h j hj).resolve_right (by simp)) i8
    ·intro M1 se1 op1 len1 i1 i2 i3 i4 i5 i6 i7 i8
     obtain ⟨y,hy,hyN,hxy⟩:=hrm r[h] (List.getElem_mem hh)
     have hdy:List.getD r h (dflt (.int .i64))=(y:Int):=by rw[←hxy];exact ZaI hh
     have hhas:(Zt (cl.1,cl.2) (y:Int)).1=points.contains (y:Int):=by
      show hasS cl (y:Int)=_
      rw[hcl.has (by omega),Int.toNat_natCast,decide_eq_true (by omega),Bool.true_and,hC y hy]
     have hhas2:(Zt (cl.1,cl.2) (y:Int)).2=cl:=rfl
     have hput:Zs (se1.1,se1.2) (y:Int)=putS se1 (y:Int):=rfl
     have hdr:∀z,z∈r.drop h↔z=(y:Int)∨z∈r.drop (h+1):=fun z=>by rw[ZaN hh,List.mem_cons,hxy]
     rw[Zq,ZaE,Zf,if_pos (Zb4 hh),Zf,if_pos (Zcs hh),Zf,Int.toNat_natCast,hdy,hhas,hhas2,hput,Z4 (by omega)]
     have skip:(goB t points x0 y=true→M1 y=true)→Goes (ZaE t points s) (.jmp (.l17 cl.1 cl.2 len1 ((h+1:Nat):Int) se1.1 op1 se1.2 (Int.ofNat r.length) r)) (Zk t points s):=fun hsk=>
      ih2 M1 se1 op1 len1 i1 i2 i3 i4 i5 i6 (fun x hx=>(i7 x hx).imp id fun hg j hj=>by
       rcases hg j hj with h | ⟨hx0,h⟩
       ·exact .inl h
       ·rcases (hdr _).1 h with h | h
        ·have:j=y:=by omega
         subst this
         rw[hx0] at hj
         exact .inl (hsk hj)
        ·exact .inr ⟨hx0,h⟩) i8
     cases hpt:points.contains (y:Int) with
     | true=>
      rw[if_neg (by decide)]
      exact skip fun h=>by unfold goB at h;rw[hpt,Bool.not_true,Bool.and_false] at h;cases h
     | false=>
      rw[if_pos (by decide),Zf]
      cases hMy:M1 y with
      | true=>
       have hno:=i3.put_no (by omega) (i:=(y:Int)) (fun h=>by rw[Int.toNat_natCast,hMy] at h;cases h.2.2)
       rw[hno,if_neg (by simp)]
       exact skip fun _=>hMy
      | false=>
       obtain ⟨p1,p2⟩:=i3.put (by omega) hy hMy
       have hgo:goB t points x0 y=true:=by unfold goB;rw[hyN,hpt];rfl
       have hcome:Come (stepB t points) (firstB t points s) y:=by
        rcases i4 with h | ⟨k,hk,hMk,hfk⟩
        ·subst h;exact .start hgo
        ·subst hk;exact .step (i5 k hMk) (by unfold stepB;rw[hfk];exact hgo)
       have hcard:=Zwv hMy hy
       have hcl2:= @Zm7 n (fun k=>M1 k || (k==y))
       have mono:∀x,nodeP t s M1 x→nodeP t s (fun k=>M1 k || (k==y)) x:=fun x hx=>hx.imp id fun ⟨k,h1,h2,h3⟩=>⟨k,h1,by show (M1 k || (k==y))=true;rw[h2];rfl,h3⟩
       have hcc:∀k,(M1 k || (k==y))=true→Come (stepB t points) (firstB t points s) k:=fun k hk=>by
        simp only[Bool.or_eq_true,beq_iff_eq] at hk
        rcases hk with hk | hk
        ·exact i5 k hk
        ·subst hk;exact hcome
       have keep:∀(o:List Int),(∀x∈op1.take len1,x∈o)→(fenceAtT t y=false→(y:Int)∈o)→∀x,nodeP t s (fun k=>M1 k || (k==y)) x→x∈o∨∀j,goB t points x j=true→(M1 j || (j==y))=true∨(x=x0∧(j:Int)∈r.drop (h+1)):=fun o ho hyo x hx=>by
        have old:nodeP t s M1 x→x∈o∨∀j,goB t points x j=true→(M1 j || (j==y))=true∨(x=x0∧(j:Int)∈r.drop (h+1)):=fun hx=>by
         rcases i7 x hx with h | h
         ·exact .inl (ho x h)
         ·refine .inr fun j hj=>?_
          rcases h j hj with h | ⟨hx0,h⟩
          ·exact .inl (by rw[h];rfl)
          ·rcases (hdr _).1 h with h | h
           ·have:j=y:=by omega
            subst this;exact .inl (by simp)
           ·exact .inr ⟨hx0,h⟩
        rcases hx with hx | ⟨k,hk,hMk,hfk⟩
        ·exact old (.inl hx)
        ·have hMk:(M1 k || (k==y))=true:=hMk
         simp only[Bool.or_eq_true,beq_iff_eq] at hMk
         rcases hMk with hMk | hMk
         ·exact old (.inr ⟨k,hk,hMk,hfk⟩)
         ·subst hMk;subst hk;exact .inl (hyo hfk)
       have vf:Zcl (List.getD t y (dflt Za))=fenceAtT t y:=rfl
       rw[p1,if_pos rfl,Zf,hn,if_pos (Zcs hy),Zf,Int.toNat_natCast,if_pos (kfe y hy),Zf,vf]
       cases hfy:fenceAtT t y with
       | true=>
        rw[if_neg (by decide)]
        exact ih2 _ _ op1 len1 i1 (by omega) p2 (mono x0 i4) hcc (fun x hx=>mono x (i6 x hx)) (keep _ (fun x hx=>hx) (fun h=>by rw[hfy] at h;cases h)) (by omega)
       | false=>
        have htl:(op1.take len1).length=len1:=by rw[List.length_take];omega
        rw[if_pos (by decide),Zf,if_pos (Nat.ble_eq_true_of_le (by rw[htl];unfold limit;omega))]
        have htake:(op1.take len1++[(y:Int)]).take (op1.take len1++[(y:Int)]).length=op1.take len1++[(y:Int)]:=List.take_length
        have hl2:(op1.take len1++[(y:Int)]).length=len1+1:=by rw[List.length_append,htl];rfl
        refine ih2 _ _ (op1.take len1++[(y:Int)]) _ (Nat.le_refl _) (by omega) p2 (mono x0 i4) hcc (fun x hx=>?_) ?_ (by omega)
        ·rw[htake,List.mem_append] at hx
         rcases hx with hx | hx
         ·exact mono x (i6 x hx)
         ·simp only[List.mem_singleton] at hx
          exact .inr ⟨y,hx,by simp,hfy⟩
        ·rw[htake]
         exact keep _ (fun x hx=>List.mem_append_left _ hx) (fun _=>List.mem_append_right _ (by simp))
   refine inner 0 (Nat.zero_le _) M se open_ len (by omega) (by omega) hs hnode h1 (fun x hx=>h2 x (by rw[htk];simp[hx])) (fun x hx=>?_) (by omega)
   rcases h3 x hx with h | h
   ·rw[htk,List.mem_append] at h
    rcases h with h | h
    ·exact .inl h
    ·simp only[List.mem_singleton] at h
     refine .inr fun j hj=>.inr ⟨h,?_⟩
     subst h
     unfold goB at hj
     rw[Bool.and_eq_true] at hj
     rw[List.drop_zero]
     exact hin j hj.1
   ·exact .inr fun j hj=>.inl (h j hj)
 have hnew:ZaB (Int.ofNat (List.length t))=((n:Int),[]):=by
  rw[hn]
  unfold ZaB
  simp
  omega
 have first:∀h,h≤points.length→∀(C:Nat→Bool) (cl:Int×List (Int×Int)),SetOK cl n C→(∀j:Nat,j < n→((C j=true∨(j:Int)∈points.drop h)↔(j:Int)∈points))→Goes (ZaE t points s) (.jmp (.l4 (h:Int) cl.1 cl.2)) (Zk t points s):=by
  refine down ?_ fun h hh ih=>?_
  ·intro C cl hcl hC
   rw[Zq,ZaE,Zf,if_neg (by rw[Za3 (Nat.lt_irrefl _)];decide),hnew]
   refine main C cl hcl (fun j hj=>?_) _ (fun _=>false) ((n:Int),[]) [s] 1 (by simp) rfl (SetOK.new n) (fun j h=>by cases h) (fun x hx=>.inl (by simpa using hx)) (fun x hx=>.inl ?_) (by omega)
   ·have:=hC j hj
    rw[List.drop_length] at this
    rw[Bool.eq_iff_iff,List.contains_iff_mem,←this]
    simp
   ·rcases hx with hx | ⟨j,_,h,_⟩
    ·simpa using hx
    ·cases h
  ·intro C cl hcl hC
   rw[Zq,ZaE,Zf,if_pos (Zb4 hh),Zf,if_pos (Zcs hh),Int.toNat_natCast,Z4 (by omega)]
   have hd:points.getD h (dflt (.int .i64))=points[h]:=ZaI hh
   rw[hd]
   have hput:Zs (cl.1,cl.2) points[h]=putS cl points[h]:=rfl
   rw[hput]
   have hdr:∀z,z∈points.drop h↔z=points[h]∨z∈points.drop (h+1):=fun z=>by rw[ZaN hh,List.mem_cons]
   generalize points[h]=x at hdr
   by_cases hx:0≤x∧x < n∧C x.toNat=false
   ·obtain ⟨y,rfl⟩:=Int.eq_ofNat_of_zero_le hx.1
    rw[Int.toNat_natCast] at hx
    obtain ⟨_,p2⟩:=hcl.put (by omega) (show y < n by omega) hx.2.2
    refine ih _ _ p2 fun j hj=>?_
    rw[←hC j hj,hdr]
    simp only[Bool.or_eq_true,beq_iff_eq]
    constructor
    ·rintro ((h | h) | h)
     ·exact .inl h
     ·exact .inr (.inl (by omega))
     ·exact .inr (.inr h)
    ·rintro (h | h | h)
     ·exact .inl (.inl h)
     ·exact .inl (.inr (by omega))
     ·exact .inr h
   ·rw[hcl.put_no (by omega) hx]
    refine ih C cl hcl fun j hj=>?_
    rw[←hC j hj,hdr]
    constructor
    ·rintro (h | h)
     ·exact .inl h
     ·exact .inr (.inr h)
    ·rintro (h | h | h)
     ·exact .inl h
     ·left
      cases hCj:C j with
      | true=>rfl
      | false=>exact absurd ⟨by omega,by omega,by rw[←h,Int.toNat_natCast];exact hCj⟩ hx
     ·exact .inr h
 unfold Zj1
 rw[hnew]
 exact first 0 (Nat.zero_le _) (fun _=>false) ((n:Int),[]) (SetOK.new n) fun j _=>by simp
end Go.Ev
end

section
open Go Go.Ev
namespace Go.Ev
noncomputable section
noncomputable def ZiE:Run:=entG Zdz Zik (fun a=>Zaj a.1 a.2.1 a.2.2.1) (fun a=>Zk a.1 a.2.1 a.2.2.1)
theorem Zjk:EntOK Go.Proofs.Tryd.prog 8 ZiE:=ZaH (tb:=Zjj) (c:=Ziw) ZuF (by kernel_rfl) (by kernel_rfl) (by kernel_rfl) (fun a=>by kernel_rfl) fun ⟨t,points,s,_⟩ hk=>Zi (c:=Ziw) (K:=fun v=>(Zik v,tps (toForms Zdz (t,points,s,())))) (S:=Zdc t points s) (by kernel_rfl) (ZuG t points s) (Zta t points s) (Zvo t points s hk)
end
end Go.Ev
end

section
open Go Go.Ev
namespace Go.Ev
noncomputable section
def ZdG:Sig:=[(true,(.sl Za)),(false,(.int .i64))]
noncomputable def ZlD:Tbl:=[(15,ZmV),(17,Zk6),(16,Zg4),(20,Zf6)]
theorem Zu4:∀p∈ZlD,EntOK Go.Proofs.Tryd.prog p.1 p.2:=Zg ZoP (Zg ZnK (Zg ZjG (Zg ZiZ (Zn))))
noncomputable def ZhT:Code:=Go.Proofs.Tryd.f9.body.getD .skip
def ZjC:Tb:=[(4,⟨[2,5,6],[(1000000000000000000000000000000000000000000000000000000000007,1)]⟩)]
inductive ZfU where | l4 (len:Nat) (seen:Int) (open_:List Int) (seen1:List (Int×Int))
def ZfN (t:List (El Za)) (i:Int):ZfU→JT ZfU (List Int) |.l4 len seen open_ seen1=>.br (decide ((Int.ofNat len) > (0:Int))) (.br ((decide ((0:Int)≤(IntKind.i64.wrap ((Int.ofNat len) - (1:Int)))))&&(decide ((IntKind.i64.wrap ((Int.ofNat len) - (1:Int))) < (Int.ofNat len)))) (.br ((decide ((0:Int)≤(IntKind.i64.wrap ((Int.ofNat len) - (1:Int)))))&&(decide ((IntKind.i64.wrap ((Int.ofNat len) - (1:Int)))≤(Int.ofNat len)))) (.br (Zs (seen,seen1) (List.getD open_ (Int.toNat (IntKind.i64.wrap ((Int.ofNat len) - (1:Int)))) (dflt (.int .i64)))).1 (.br (Zct t (List.getD open_ (Int.toNat (IntKind.i64.wrap ((Int.ofNat len) - (1:Int)))) (dflt (.int .i64)))) (.br (Nat.ble (((List.length (List.take (Int.toNat (IntKind.i64.wrap ((Int.ofNat len) - (1:Int)))) open_))+(List.length (ZB t (List.getD open_ (Int.toNat (IntKind.i64.wrap ((Int.ofNat len) - (1:Int)))) (dflt (.int .i64))))))*8) limit) (.jmp (.l4 (List.length ((List.take (Int.toNat (IntKind.i64.wrap ((Int.ofNat len) - (1:Int)))) open_)++(ZB t (List.getD open_ (Int.toNat (IntKind.i64.wrap ((Int.ofNat len) - (1:Int)))) (dflt (.int .i64)))))) (Zs (seen,seen1) (List.getD open_ (Int.toNat (IntKind.i64.wrap ((Int.ofNat len) - (1:Int)))) (dflt (.int .i64)))).2.1 ((List.take (Int.toNat (IntKind.i64.wrap ((Int.ofNat len) - (1:Int)))) open_)++(ZB t (List.getD open_ (Int.toNat (IntKind.i64.wrap ((Int.ofNat len) - (1:Int)))) (dflt (.int .i64))))) (Zs (seen,seen1) (List.getD open_ (Int.toNat (IntKind.i64.wrap ((Int.ofNat len) - (1:Int)))) (dflt (.int .i64)))).2.2)) (.no)) (.no)) (.jmp (.l4 (Int.toNat (IntKind.i64.wrap ((Int.ofNat len) - (1:Int)))) (Zs (seen,seen1) (List.getD open_ (Int.toNat (IntKind.i64.wrap ((Int.ofNat len) - (1:Int)))) (dflt (.int .i64)))).2.1 open_ (Zs (seen,seen1) (List.getD open_ (Int.toNat (IntKind.i64.wrap ((Int.ofNat len) - (1:Int)))) (dflt (.int .i64)))).2.2))) (.no)) (.no)) (.br (ZaR (seen,seen1)) (.leaf (Zbu (seen,seen1)).1) (.no))
def ZjU (t:List (El Za)) (i:Int):JT ZfU (List Int):=.br (Zct t i) (.jmp (.l4 (List.length (ZB t i)) (ZaB (Int.ofNat (List.length t))).1 (ZB t i) (ZaB (Int.ofNat (List.length t))).2)) (.no)
def Zh4:List Int→AV:=fun (r:List Int)=>.rw 3 (.int .i64) r
def Zdg (t:List (El Za)) (i:Int):ZfU→Nat×St |.l4 len seen open_ seen1=>(4,⟨mkTm 39 [(2,.pt 3 0 0),(5,.pt 6 0 0),(6,.own 7 0 (some len))],[(3,0,.box 31 [.d (.sl Za) t] none),(6,0,.box 65 [.d (.int .i64) seen,.mp 6146 0] none),(7,0,.row 3 (.int .i64) open_ false),(6146,0,.map (.int .i64) (.int .u64) seen1)]⟩)
theorem Zth (t:List (El Za)) (i:Int) (L:Lt):entryA Go.Proofs.Tryd.prog (clOf ZlD) ZjC Go.Proofs.Tryd.f9 ZhT L (toForms ZdG (t,i,()))=(ZjU t i).run (fun v=>some (Zh4 v,tps (toForms ZdG (t,i,())))) fun j=>L (Zdg t i j).1 (Zdg t i j).2:=by kernel_rfl
theorem Zuu (t:List (El Za)) (i:Int):∀(L:Lt) (j:ZfU),procOf (procsF Go.Proofs.Tryd.prog (clOf ZlD) ZjC Go.Proofs.Tryd.f9 ZhT (toForms ZdG (t,i,()))) (Zdg t i j).1 L (Zdg t i j).2=(ZfN t i j).run (fun v=>some (Zh4 v,tps (toForms ZdG (t,i,())))) fun j=>L (Zdg t i j).1 (Zdg t i j).2 | L,.l4 len seen open_ seen1=>by kernel_rfl
end
end Go.Ev
end

section
open Go
namespace Go.Ev
noncomputable def ZbG (t:List (El Za)) (i:Int):List Int:=listOf t.length (fromB t i)
def Zh7 (t:List (El Za)) (i:Int):Bool:=flowOK t
theorem ZqO (t:List (El Za)) (i:Int):(ZB t i).length≤3:=by
 unfold ZB
 by_cases h:0≤i∧i < (t.length:Int)
 ·obtain ⟨j,rfl⟩:=Int.eq_ofNat_of_zero_le h.1
  rw[←Zwr (by omega)]
  unfold nextL
  simp only[List.length_append]
  split <;> split <;> split <;> simp
 ·rw[Zpe h];simp
theorem Zxf {l:List Int} {n:Nat} (h:n+1≤l.length):l.take (n+1)=l.take n++[l.getD n 0]:=by
 have hn:n < l.length:=by omega
 rw[List.take_succ_eq_append_getElem hn,ZaI hn]
theorem Zvb (t:List (El Za)) (i:Int) (hk:Zh7 t i=true):Goes (ZfN t i) (ZjU t i) (ZbG t i):=by
 have hlen:=Zfx hk
 generalize hn:t.length=n at hlen
 have loop:∀m,∀(M:Nat→Bool) (s:Int×List (Int×Int)) (open_:List Int) (len:Nat),len≤open_.length→4*(n - card n M)+len=m→SetOK s n M→(∀j,M j=true→Come (fun k j=>nextB t (k:Int) j) (nextB t i) j)→
   (∀x∈open_.take len,∃j:Nat,x=(j:Int)∧Come (fun k j=>nextB t (k:Int) j) (nextB t i) j)→(∀j,nextB t i j=true→M j=true∨(j:Int)∈open_.take len)→(∀k j,M k=true→nextB t (k:Int) j=true→M j=true∨(j:Int)∈open_.take len)→
   len≤3*(card n M+1)→Goes (ZfN t i) (.jmp (.l4 len s.1 open_ s.2)) (ZbG t i):=by
  intro m
  induction m using Nat.strongRecOn with
  | _ m ih=>
  intro M s open_ len hl hm hs h1 h2 h3 h4 h5
  cases len with
  | zero=>
   rw[Zq,ZfN,Zf,if_neg (by decide)]
   have hkl:ZaR (s.1,s.2)=true:=Nat.ble_eq_true_of_le (by have:=hs.few;unfold limit;show s.2.length*512≤_;omega)
   rw[Zf,if_pos hkl]
   have hv:(Zbu (s.1,s.2)).1=ZbG t i:=by
    show listS s=_
    rw[hs.list (by omega)]
    unfold ZbG fromB
    rw[hn]
    refine Zjd fun j _=>ZlU (fun j hj=>?_) (fun k j hk hj=>?_) h1 j
    ·simpa using h3 j hj
    ·simpa using h4 k j hk hj
   rw[hv];exact .leaf
  | succ len=>
   have hc:= @Zm7 n M
   have e:IntKind.i64.wrap (Int.ofNat (len+1) - 1)=(len:Int):=by
    rw[wrap_i64 (by simp <;> omega) (by simp <;> omega)];simp
   have g1:decide (Int.ofNat (len+1) > (0:Int))=true:=decide_eq_true (by simp <;> omega)
   have g2:(decide ((0:Int)≤(len:Int))&&decide ((len:Int) < Int.ofNat (len+1)))=true:=Zcs (by omega)
   have g3:(decide ((0:Int)≤(len:Int))&&decide ((len:Int)≤Int.ofNat (len+1)))=true:=by simp;omega
   rw[Zq,ZfN,e,Zf,if_pos g1,Zf,if_pos g2,Zf,if_pos g3,Zf,Int.toNat_natCast]
   have htk:=Zxf hl
   obtain ⟨j,hj,hcj⟩:=h2 (open_.getD len 0) (by rw[htk];simp)
   have hjn:j < n:=by
    have:=Zxx (n:=t.length) (fun j=>Zgr) (fun k j=>Zgr) hcj
    omega
   have hd:open_.getD len (dflt (.int .i64))=(j:Int):=hj
   rw[hd]
   have hput:Zs (s.1,s.2) (j:Int)=putS s (j:Int):=rfl
   rw[hput]
   have sub:∀x,x∈open_.take len→x∈open_.take (len+1):=fun x hx=>by rw[htk];simp[hx]
   cases hMj:M j with
   | true=>
    have hno:=hs.put_no (by omega) (i:=(j:Int)) (fun h=>by rw[Int.toNat_natCast,hMj] at h;cases h.2.2)
    rw[hno,if_neg (by simp)]
    have lose:∀k:Nat,(M k=true∨(k:Int)∈open_.take (len+1))→(M k=true∨(k:Int)∈open_.take len):=fun k h=>by
     rcases h with h | h
     ·exact .inl h
     ·rw[htk,List.mem_append] at h
      rcases h with h | h
      ·exact .inr h
      ·simp only[List.mem_singleton] at h
       rw[hj] at h
       have:k=j:=by omega
       subst this
       exact .inl hMj
    exact ih (m - 1) (by omega) M s open_ len (by omega) (by omega) hs h1 (fun x hx=>h2 x (sub x hx)) (fun k hk=>lose k (h3 k hk)) (fun k k' hk hk'=>lose k' (h4 k k' hk hk')) (by omega)
   | false=>
    obtain ⟨p1,p2⟩:=hs.put (by omega) hjn hMj
    have hsh:=ZqO t (j:Int)
    have hkn:Zct t (j:Int)=true:=hk
    rw[p1,if_pos rfl,Zf,if_pos hkn,Zf,if_pos (Nat.ble_eq_true_of_le (by
     rw[List.length_take];unfold limit;omega))]
    have hcard:=Zwv hMj hjn
    have hcl2:= @Zm7 n (fun k=>M k || (k==j))
    have hnl:∀k:Nat,nextB t (j:Int) k=true→(k:Int)∈ZB t (j:Int):=fun k hk=>ZcD.2 ⟨k,Zgr hk,hk,rfl⟩
    have htake:(open_.take len++ZB t (j:Int)).take (open_.take len++ZB t (j:Int)).length=open_.take len++ZB t (j:Int):=List.take_length
    have hlen2:(open_.take len++ZB t (j:Int)).length≤len+3:=by rw[List.length_append,List.length_take];omega
    have keep:∀k:Nat,(M k=true∨(k:Int)∈open_.take (len+1))→((M k || (k==j))=true∨(k:Int)∈open_.take len++ZB t (j:Int)):=fun k h=>by
     rcases h with h | h
     ·exact .inl (by rw[h];rfl)
     ·rw[htk,List.mem_append] at h
      rcases h with h | h
      ·exact .inr (List.mem_append_left _ h)
      ·simp only[List.mem_singleton] at h
       rw[hj] at h
       have:k=j:=by omega
       subst this
       exact .inl (by simp)
    refine ih _ (by omega) (fun k=>M k || (k==j)) (putS s (j:Int)).2 (open_.take len++ZB t (j:Int)) (open_.take len++ZB t (j:Int)).length (Nat.le_refl _) rfl p2 (fun k hk=>?_) (fun x hx=>?_) (fun k hk=>?_) (fun k k' hk hk'=>?_) (by omega)
    ·simp only[Bool.or_eq_true,beq_iff_eq] at hk
     rcases hk with hk | hk
     ·exact h1 k hk
     ·subst hk;exact hcj
    ·rw[htake,List.mem_append] at hx
     rcases hx with hx | hx
     ·exact h2 x (sub x hx)
     ·obtain ⟨k,_,hk,rfl⟩:=ZcD.1 hx
      exact ⟨k,rfl,.step hcj hk⟩
    ·rw[htake];exact keep k (h3 k hk)
    ·rw[htake]
     simp only[Bool.or_eq_true,beq_iff_eq] at hk
     rcases hk with hk | hk
     ·exact keep k' (h4 k k' hk hk')
     ·subst hk
      exact .inr (List.mem_append_right _ (hnl k' hk'))
 have hkn:Zct t i=true:=hk
 unfold ZjU
 rw[Zf,if_pos hkn]
 have hnew:ZaB (Int.ofNat (List.length t))=((n:Int),[]):=by
  rw[hn]
  unfold ZaB
  simp
  omega
 rw[hnew]
 refine loop _ (fun _=>false) ((n:Int),[]) (ZB t i) _ (Nat.le_refl _) rfl (SetOK.new n) (fun j h=>by cases h) (fun x hx=>?_) (fun j hj=>.inr ?_) (fun k j h=>by cases h) (by have:=ZqO t i;omega)
 ·rw[List.take_length] at hx
  obtain ⟨k,_,hk,rfl⟩:=ZcD.1 hx
  exact ⟨k,rfl,.start hk⟩
 ·rw[List.take_length];exact ZcD.2 ⟨j,Zgr hj,hj,rfl⟩
end Go.Ev
end

section
open Go Go.Ev
namespace Go.Ev
noncomputable section
noncomputable def ZoY:Run:=entG ZdG Zh4 (fun a=>Zh7 a.1 a.2.1) (fun a=>ZbG a.1 a.2.1)
theorem Ztr:EntOK Go.Proofs.Tryd.prog 9 ZoY:=ZaH (tb:=ZjC) (c:=ZhT) Zu4 (by kernel_rfl) (by kernel_rfl) (by kernel_rfl) (fun a=>by kernel_rfl) fun ⟨t,i,_⟩ hk=>Zi (c:=ZhT) (K:=fun v=>(Zh4 v,tps (toForms ZdG (t,i,())))) (S:=Zdg t i) (by kernel_rfl) (Zth t i) (Zuu t i) (Zvb t i hk)
end
end Go.Ev
end

section
open Go Go.Ev
namespace Go.Ev
noncomputable section
def Za2:Sig:=[(false,(.sl (.int .i64))),(false,(.sl (.int .i64)))]
noncomputable def Zf2:Tbl:=[]
theorem Zn3:∀p∈Zf2,EntOK Go.Proofs.Tryd.prog p.1 p.2:=Zn
noncomputable def ZdU:Code:=Go.Proofs.Tryd.f7.body.getD .skip
def Ze5:Tb:=[(6,⟨[0,1,5],[]⟩)]
inductive Zcg where | l6 (i:Int)
def Zcv (a:List Int) (b:List Int):Zcg→JT Zcg (Bool) |.l6 i=>.br (decide (i < (Int.ofNat (List.length a)))) (.br ((decide ((0:Int)≤i))&&(decide (i < (Int.ofNat (List.length a))))) (.br ((decide ((0:Int)≤i))&&(decide (i < (Int.ofNat (List.length b))))) (.br ((List.getD a (Int.toNat i) (dflt (.int .i64))) !=(List.getD b (Int.toNat i) (dflt (.int .i64)))) (.leaf false) (.jmp (.l6 (IntKind.i64.wrap (i+(1:Int)))))) (.no)) (.no)) (.leaf true)
def ZeW (a:List Int) (b:List Int):JT Zcg (Bool):=.br ((Int.ofNat (List.length a)) !=(Int.ofNat (List.length b))) (.leaf false) (.jmp (.l6 (0:Int)))
def Zd8:Bool→AV:=fun (r:Bool)=>.d .bool r
def ZaT (a:List Int) (b:List Int):Zcg→Nat×St |.l6 i=>(6,⟨mkTm 26 [(0,.d (.sl (.int .i64)) a),(1,.d (.sl (.int .i64)) b),(5,.d (.int .i64) i)],[]⟩)
theorem Zoe (a:List Int) (b:List Int) (L:Lt):entryA Go.Proofs.Tryd.prog (clOf Zf2) Ze5 Go.Proofs.Tryd.f7 ZdU L (toForms Za2 (a,b,()))=(ZeW a b).run (fun v=>some (Zd8 v,tps (toForms Za2 (a,b,())))) fun j=>L (ZaT a b j).1 (ZaT a b j).2:=by kernel_rfl
theorem Zoc (a:List Int) (b:List Int):∀(L:Lt) (j:Zcg),procOf (procsF Go.Proofs.Tryd.prog (clOf Zf2) Ze5 Go.Proofs.Tryd.f7 ZdU (toForms Za2 (a,b,()))) (ZaT a b j).1 L (ZaT a b j).2=(Zcv a b j).run (fun v=>some (Zd8 v,tps (toForms Za2 (a,b,())))) fun j=>L (ZaT a b j).1 (ZaT a b j).2 | L,.l6 i=>by kernel_rfl
end
end Go.Ev
end

section
open Go
namespace Go.Ev
theorem ZxN {a b:Int} :(a==b)=decide (a=b):=by rw[Bool.eq_iff_iff];simp
def Zan (a b:List Int):Bool:=decide (a=b)
def Zae (a b:List Int):Bool:=decide (a.length < 4611686018427387904)
theorem Zpq (a b:List Int) (hk:Zae a b=true):Goes (Zcv a b) (ZeW a b) (Zan a b):=by
 have hn:a.length < 4611686018427387904:=of_decide_eq_true hk
 have loop:a.length=b.length→∀k,k≤a.length→Goes (Zcv a b) (.jmp (.l6 (k:Int))) (decide (a.drop k=b.drop k)):=by
  intro he
  refine down ?_ fun k hk ih=>?_
  ·rw[Zq]
   simp[Zcv,Zf,Zas,he]
  ·rw[Zq]
   have hkb:k < b.length:=he▸hk
   simp only[Zcv,Zf,Zb4 hk,Zb4 hkb,nng,Bool.and_self,if_true,Int.toNat_natCast,ZaI hk,ZaI hkb,Z4 (k:=k) (by omega)]
   rw[ZaN hk,ZaN hkb]
   split
   ·rename_i h1
    have h2:(! decide (a[k]=b[k]))=true:=(congrArg Bool.not ZxN).symm.trans h1
    have h3:¬a[k]=b[k]:=by simpa using h2
    rw[decide_eq_false (fun e=>h3 (List.cons.inj e).1)]
    exact .leaf
   ·rename_i h1
    have h2:¬(! decide (a[k]=b[k]))=true:=fun h=>h1 ((congrArg Bool.not ZxN).trans h)
    have h3:a[k]=b[k]:=by simpa using h2
    rw[show decide (a[k] :: List.drop (k+1) a=b[k] :: List.drop (k+1) b)=decide (List.drop (k+1) a=List.drop (k+1) b) from decide_eq_decide.2 ⟨fun e=>(List.cons.inj e).2,fun e=>by rw[h3,e]⟩]
    exact ih
 unfold ZeW Zan
 rw[Zf]
 by_cases h:a.length=b.length
 ·have:=loop h 0 (Nat.zero_le _)
  simpa[h] using this
 ·have:a≠b:=fun e=>h (congrArg _ e)
  rw[if_pos (by simp;omega),decide_eq_false this]
  exact .leaf
end Go.Ev
end

section
open Go Go.Ev
namespace Go.Ev
noncomputable section
noncomputable def Zf7:Run:=entG Za2 Zd8 (fun a=>Zae a.1 a.2.1) (fun a=>Zan a.1 a.2.1)
theorem ZiW:EntOK Go.Proofs.Tryd.prog 7 Zf7:=ZaH (tb:=Ze5) (c:=ZdU) Zn3 (by kernel_rfl) (by kernel_rfl) (by kernel_rfl) (fun a=>by kernel_rfl) fun ⟨a,b,_⟩ hk=>Zi (c:=ZdU) (K:=fun v=>(Zd8 v,tps (toForms Za2 (a,b,())))) (S:=ZaT a b) (by kernel_rfl) (Zoe a b) (Zoc a b) (Zpq a b hk)
end
end Go.Ev
end

section
open Go Go.Ev
namespace Go.Ev
noncomputable section
def ZN:Sig:=[(false,(.sl (.int .i64))),(false,(.int .i64))]
noncomputable def Zbc:Tbl:=[]
theorem Zgc:∀p∈Zbc,EntOK Go.Proofs.Tryd.prog p.1 p.2:=Zn
noncomputable def Zav:Code:=Go.Proofs.Tryd.f47.body.getD .skip
def ZaW:Tb:=[(3,⟨[0,1,7,8],[]⟩)]
inductive Zag where | l3 (h:Int)
def Zaa (s:List Int) (v_:Int):Zag→JT Zag (Int) |.l3 h=>.br (decide (h < (Int.ofNat (List.length s)))) (.br ((decide ((0:Int)≤h))&&(decide (h < (Int.ofNat (List.length s))))) (.br (v_==(List.getD s (Int.toNat h) (dflt (.int .i64)))) (.leaf h) (.jmp (.l3 (IntKind.i64.wrap (h+(1:Int)))))) (.no)) (.leaf (-1:Int))
def Zc1 (s:List Int) (v_:Int):JT Zag (Int):=.jmp (.l3 (0:Int))
def Zau:Int→AV:=fun (r:Int)=>.d (.int .i64) r
def ZJ (s:List Int) (v_:Int):Zag→Nat×St |.l3 h=>(3,⟨mkTm 19 [(0,.d (.sl (.int .i64)) s),(1,.d (.int .i64) v_),(7,.d (.int .i64) (Int.ofNat (List.length s))),(8,.d (.int .i64) h)],[]⟩)
theorem Zgb (s:List Int) (v_:Int) (L:Lt):entryA Go.Proofs.Tryd.prog (clOf Zbc) ZaW Go.Proofs.Tryd.f47 Zav L (toForms ZN (s,v_,()))=(Zc1 s v_).run (fun v=>some (Zau v,tps (toForms ZN (s,v_,())))) fun j=>L (ZJ s v_ j).1 (ZJ s v_ j).2:=by kernel_rfl
theorem Zgd (s:List Int) (v_:Int):∀(L:Lt) (j:Zag),procOf (procsF Go.Proofs.Tryd.prog (clOf Zbc) ZaW Go.Proofs.Tryd.f47 Zav (toForms ZN (s,v_,()))) (ZJ s v_ j).1 L (ZJ s v_ j).2=(Zaa s v_ j).run (fun v=>some (Zau v,tps (toForms ZN (s,v_,())))) fun j=>L (ZJ s v_ j).1 (ZJ s v_ j).2 | L,.l3 h=>by kernel_rfl
end
end Go.Ev
end

section
open Go
namespace Go.Ev
def indexI (v:Int):List Int→Nat→Int
 | [],_=> -1
 | x :: r,k=>if v=x then (k:Int) else indexI v r (k+1)
theorem Zt3 {v:Int} :∀ {l:List Int} {k:Nat},decide (indexI v l k≥0)=l.contains v
 | [],k=>rfl
 | x :: r,k=>by
  unfold indexI
  rw[List.contains_cons]
  by_cases h:v=x
  ·subst h;rw[if_pos rfl];simp
  ·rw[if_neg h,Zt3]
   have:(v==x)=false:=by simpa using h
   rw[this,Bool.false_or]
def Zad (s:List Int) (v:Int):Int:=indexI v s 0
def ZR (s:List Int) (v:Int):Bool:=decide (s.length < 4611686018427387904)
theorem Zhd (s:List Int) (v:Int) (hk:ZR s v=true):Goes (Zaa s v) (Zc1 s v) (Zad s v):=by
 have hn:s.length < 4611686018427387904:=of_decide_eq_true hk
 have loop:∀k,k≤s.length→Goes (Zaa s v) (.jmp (.l3 (k:Int))) (indexI v (s.drop k) k):=by
  refine down ?_ fun k hk ih=>?_
  ·rw[Zq,Zaa,Zf,if_neg (by rw[Za3 (Nat.lt_irrefl _)];decide),List.drop_length]
   exact .leaf
  ·have hd:s.getD k (dflt (.int .i64))=s[k]:=ZaI hk
   rw[Zq,Zaa,Zf,if_pos (Zb4 hk),Zf,if_pos (Zcs hk),Zf,Int.toNat_natCast,hd,ZaN hk,indexI,Z4 (by omega)]
   by_cases h:v=s[k]
   ·rw[if_pos h,if_pos (by simpa using h)];exact .leaf
   ·rw[if_neg h,if_neg (by simpa using h)];exact ih
 exact loop 0 (Nat.zero_le _)
end Go.Ev
end

section
open Go Go.Ev
namespace Go.Ev
noncomputable section
noncomputable def Zc6:Run:=entG ZN Zau (fun a=>ZR a.1 a.2.1) (fun a=>Zad a.1 a.2.1)
theorem Zga:EntOK Go.Proofs.Tryd.prog 47 Zc6:=ZaH (tb:=ZaW) (c:=Zav) Zgc (by kernel_rfl) (by kernel_rfl) (by kernel_rfl) (fun a=>by kernel_rfl) fun ⟨s,v_,_⟩ hk=>Zi (c:=Zav) (K:=fun v=>(Zau v,tps (toForms ZN (s,v_,())))) (S:=ZJ s v_) (by kernel_rfl) (Zgb s v_) (Zgd s v_) (Zhd s v_ hk)
end
end Go.Ev
end

section
open Go Go.Ev
namespace Go.Ev
noncomputable section
def ZG:Sig:=[(false,(.sl (.int .i64))),(false,(.int .i64))]
noncomputable def ZaJ:Tbl:=[(47,Zc6)]
theorem Ze6:∀p∈ZaJ,EntOK Go.Proofs.Tryd.prog p.1 p.2:=Zg Zga (Zn)
noncomputable def Zal:Code:=Go.Proofs.Tryd.f34.body.getD .skip
def ZaD:Tb:=[]
def Zb2 (s:List Int) (v_:Int):Empty→JT Empty (Bool):=fun j=>nomatch j
def ZbO (s:List Int) (v_:Int):JT Empty (Bool):=.br (ZR s v_) (.leaf (decide ((Zad s v_)≥(0:Int)))) (.no)
def ZV (s:List Int) (v_:Int):Bool:=bif (ZR s v_) then (decide ((Zad s v_)≥(0:Int))) else false
def ZA (s:List Int) (v_:Int):Bool:=bif (ZR s v_) then true else false
theorem Zfi (s:List Int) (v_:Int) (hk:ZA s v_=true):Goes (Zb2 s v_) (ZbO s v_) (ZV s v_):=Goes.brk hk (fun hk=>Goes.leaf) (fun hk=>Goes.nok hk)
def Zam:Bool→AV:=fun (r:Bool)=>.d .bool r
def Zz (s:List Int) (v_:Int):Empty→Nat×St:=fun j=>nomatch j
theorem Ze2 (s:List Int) (v_:Int) (L:Lt):entryA Go.Proofs.Tryd.prog (clOf ZaJ) ZaD Go.Proofs.Tryd.f34 Zal L (toForms ZG (s,v_,()))=(ZbO s v_).run (fun v=>some (Zam v,tps (toForms ZG (s,v_,())))) fun j=>L (Zz s v_ j).1 (Zz s v_ j).2:=by kernel_rfl
theorem Ze0 (s:List Int) (v_:Int):∀(L:Lt) (j:Empty),procOf (procsF Go.Proofs.Tryd.prog (clOf ZaJ) ZaD Go.Proofs.Tryd.f34 Zal (toForms ZG (s,v_,()))) (Zz s v_ j).1 L (Zz s v_ j).2=(Zb2 s v_ j).run (fun v=>some (Zam v,tps (toForms ZG (s,v_,())))) fun j=>L (Zz s v_ j).1 (Zz s v_ j).2:=fun L j=>nomatch j
noncomputable def Zb5:Run:=entG ZG Zam (fun a=>ZA a.1 a.2.1) (fun a=>ZV a.1 a.2.1)
theorem Ze3:EntOK Go.Proofs.Tryd.prog 34 Zb5:=ZaH (tb:=ZaD) (c:=Zal) Ze6 (by kernel_rfl) (by kernel_rfl) (by kernel_rfl) (fun a=>by kernel_rfl) fun ⟨s,v_,_⟩ hk=>Zi (c:=Zal) (K:=fun v=>(Zam v,tps (toForms ZG (s,v_,())))) (S:=Zz s v_) (by kernel_rfl) (Ze2 s v_) (Ze0 s v_) (Zfi s v_ hk)
end
end Go.Ev
end

section
open Go Go.Ev
namespace Go.Ev
noncomputable section
def Zdv:Sig:=[(true,(.sl Za)),(false,(.sl (.int .i64))),(false,(.int .i64)),(false,(.int .i64))]
noncomputable def Zlo:Tbl:=[(8,ZiE),(34,Zb5)]
theorem ZtH:∀p∈Zlo,EntOK Go.Proofs.Tryd.prog p.1 p.2:=Zg Zjk (Zg Ze3 (Zn))
noncomputable def ZhJ:Code:=Go.Proofs.Tryd.f21.body.getD .skip
def Zje:Tb:=[]
def ZpF (t:List (El Za)) (points:List Int) (s:Int) (l:Int):Empty→JT Empty (Bool):=fun j=>nomatch j
def ZnT (t:List (El Za)) (points:List Int) (s:Int) (l:Int):JT Empty (Bool):=.br (Zaj t points s) (.br (ZA (Zk t points s) l) (.leaf (ZV (Zk t points s) l)) (.no)) (.no)
def ZC (t:List (El Za)) (points:List Int) (s:Int) (l:Int):Bool:=bif (Zaj t points s) then bif (ZA (Zk t points s) l) then (ZV (Zk t points s) l) else false else false
def ZP (t:List (El Za)) (points:List Int) (s:Int) (l:Int):Bool:=bif (Zaj t points s) then bif (ZA (Zk t points s) l) then true else false else false
theorem Zv7 (t:List (El Za)) (points:List Int) (s:Int) (l:Int) (hk:ZP t points s l=true):Goes (ZpF t points s l) (ZnT t points s l) (ZC t points s l):=Goes.brk hk (fun hk=>Goes.brk hk (fun hk=>Goes.leaf) (fun hk=>Goes.nok hk)) (fun hk=>Goes.nok hk)
def ZhQ:Bool→AV:=fun (r:Bool)=>.d .bool r
def Zde (t:List (El Za)) (points:List Int) (s:Int) (l:Int):Empty→Nat×St:=fun j=>nomatch j
theorem Zua (t:List (El Za)) (points:List Int) (s:Int) (l:Int) (L:Lt):entryA Go.Proofs.Tryd.prog (clOf Zlo) Zje Go.Proofs.Tryd.f21 ZhJ L (toForms Zdv (t,points,s,l,()))=(ZnT t points s l).run (fun v=>some (ZhQ v,tps (toForms Zdv (t,points,s,l,())))) fun j=>L (Zde t points s l j).1 (Zde t points s l j).2:=by kernel_rfl
theorem Zuv (t:List (El Za)) (points:List Int) (s:Int) (l:Int):∀(L:Lt) (j:Empty),procOf (procsF Go.Proofs.Tryd.prog (clOf Zlo) Zje Go.Proofs.Tryd.f21 ZhJ (toForms Zdv (t,points,s,l,()))) (Zde t points s l j).1 L (Zde t points s l j).2=(ZpF t points s l j).run (fun v=>some (ZhQ v,tps (toForms Zdv (t,points,s,l,())))) fun j=>L (Zde t points s l j).1 (Zde t points s l j).2:=fun L j=>nomatch j
noncomputable def ZoC:Run:=entG Zdv ZhQ (fun a=>ZP a.1 a.2.1 a.2.2.1 a.2.2.2.1) (fun a=>ZC a.1 a.2.1 a.2.2.1 a.2.2.2.1)
theorem Zuc:EntOK Go.Proofs.Tryd.prog 21 ZoC:=ZaH (tb:=Zje) (c:=ZhJ) ZtH (by kernel_rfl) (by kernel_rfl) (by kernel_rfl) (fun a=>by kernel_rfl) fun ⟨t,points,s,l,_⟩ hk=>Zi (c:=ZhJ) (K:=fun v=>(ZhQ v,tps (toForms Zdv (t,points,s,l,())))) (S:=Zde t points s l) (by kernel_rfl) (Zua t points s l) (Zuv t points s l) (Zv7 t points s l hk)
end
end Go.Ev
end

section
open Go Go.Ev
namespace Go.Ev
noncomputable section
def ZbQ:Sig:=[]
noncomputable def Zir:Tbl:=[(21,ZoC),(8,ZiE),(7,Zf7)]
theorem Zp7:∀p∈Zir,EntOK Go.Proofs.Tryd.prog p.1 p.2:=Zg Zuc (Zg Zjk (Zg ZiW (Zn)))
noncomputable def Ze7:Code:=Go.Proofs.Tryd.f10.body.getD .skip
def Zg6:Tb:=[]
def Zmc:Empty→JT Empty (Bool):=fun j=>nomatch j
def ZkY:JT Empty (Bool):=.br (ZP [((1:Int),(false,((0:Int),(((3:Int),((0:Int),((0:Int),(0:Int)))),(((2:Int),((0:Int),((0:Int),(1:Int)))),((bs []),[])))))),((1:Int),(false,((0:Int),(((1:Int),((0:Int),((0:Int),(0:Int)))),(((3:Int),((0:Int),((0:Int),(0:Int)))),((bs []),[])))))),((14:Int),(false,((0:Int),(((0:Int),((0:Int),((0:Int),(0:Int)))),(((0:Int),((0:Int),((0:Int),(0:Int)))),((bs []),[]))))))] [] (0:Int) (1:Int)) (.br (ZC [((1:Int),(false,((0:Int),(((3:Int),((0:Int),((0:Int),(0:Int)))),(((2:Int),((0:Int),((0:Int),(1:Int)))),((bs []),[])))))),((1:Int),(false,((0:Int),(((1:Int),((0:Int),((0:Int),(0:Int)))),(((3:Int),((0:Int),((0:Int),(0:Int)))),((bs []),[])))))),((14:Int),(false,((0:Int),(((0:Int),((0:Int),((0:Int),(0:Int)))),(((0:Int),((0:Int),((0:Int),(0:Int)))),((bs []),[]))))))] [] (0:Int) (1:Int)) (.br (ZP [((1:Int),(false,((0:Int),(((3:Int),((0:Int),((0:Int),(0:Int)))),(((2:Int),((0:Int),((0:Int),(1:Int)))),((bs []),[])))))),((1:Int),(false,((0:Int),(((1:Int),((0:Int),((0:Int),(0:Int)))),(((3:Int),((0:Int),((0:Int),(0:Int)))),((bs []),[])))))),((14:Int),(false,((0:Int),(((0:Int),((0:Int),((0:Int),(0:Int)))),(((0:Int),((0:Int),((0:Int),(0:Int)))),((bs []),[]))))))] [(1:Int)] (0:Int) (1:Int)) (.br (! (ZC [((1:Int),(false,((0:Int),(((3:Int),((0:Int),((0:Int),(0:Int)))),(((2:Int),((0:Int),((0:Int),(1:Int)))),((bs []),[])))))),((1:Int),(false,((0:Int),(((1:Int),((0:Int),((0:Int),(0:Int)))),(((3:Int),((0:Int),((0:Int),(0:Int)))),((bs []),[])))))),((14:Int),(false,((0:Int),(((0:Int),((0:Int),((0:Int),(0:Int)))),(((0:Int),((0:Int),((0:Int),(0:Int)))),((bs []),[]))))))] [(1:Int)] (0:Int) (1:Int))) (.br (ZP [((1:Int),(false,((0:Int),(((3:Int),((0:Int),((0:Int),(0:Int)))),(((2:Int),((0:Int),((0:Int),(1:Int)))),((bs []),[])))))),((1:Int),(false,((0:Int),(((1:Int),((0:Int),((0:Int),(0:Int)))),(((3:Int),((0:Int),((0:Int),(0:Int)))),((bs []),[])))))),((14:Int),(false,((0:Int),(((0:Int),((0:Int),((0:Int),(0:Int)))),(((0:Int),((0:Int),((0:Int),(0:Int)))),((bs []),[]))))))] [] (1:Int) (0:Int)) (.br (! (ZC [((1:Int),(false,((0:Int),(((3:Int),((0:Int),((0:Int),(0:Int)))),(((2:Int),((0:Int),((0:Int),(1:Int)))),((bs []),[])))))),((1:Int),(false,((0:Int),(((1:Int),((0:Int),((0:Int),(0:Int)))),(((3:Int),((0:Int),((0:Int),(0:Int)))),((bs []),[])))))),((14:Int),(false,((0:Int),(((0:Int),((0:Int),((0:Int),(0:Int)))),(((0:Int),((0:Int),((0:Int),(0:Int)))),((bs []),[]))))))] [] (1:Int) (0:Int))) (.br (Zaj [((1:Int),(false,((0:Int),(((3:Int),((0:Int),((0:Int),(0:Int)))),(((2:Int),((0:Int),((0:Int),(1:Int)))),((bs []),[])))))),((1:Int),(false,((0:Int),(((1:Int),((0:Int),((0:Int),(0:Int)))),(((3:Int),((0:Int),((0:Int),(0:Int)))),((bs []),[])))))),((14:Int),(false,((0:Int),(((0:Int),((0:Int),((0:Int),(0:Int)))),(((0:Int),((0:Int),((0:Int),(0:Int)))),((bs []),[]))))))] [(2:Int)] (0:Int)) (.br (Zae (Zk [((1:Int),(false,((0:Int),(((3:Int),((0:Int),((0:Int),(0:Int)))),(((2:Int),((0:Int),((0:Int),(1:Int)))),((bs []),[])))))),((1:Int),(false,((0:Int),(((1:Int),((0:Int),((0:Int),(0:Int)))),(((3:Int),((0:Int),((0:Int),(0:Int)))),((bs []),[])))))),((14:Int),(false,((0:Int),(((0:Int),((0:Int),((0:Int),(0:Int)))),(((0:Int),((0:Int),((0:Int),(0:Int)))),((bs []),[]))))))] [(2:Int)] (0:Int)) [(1:Int)]) (.leaf (Zan (Zk [((1:Int),(false,((0:Int),(((3:Int),((0:Int),((0:Int),(0:Int)))),(((2:Int),((0:Int),((0:Int),(1:Int)))),((bs []),[])))))),((1:Int),(false,((0:Int),(((1:Int),((0:Int),((0:Int),(0:Int)))),(((3:Int),((0:Int),((0:Int),(0:Int)))),((bs []),[])))))),((14:Int),(false,((0:Int),(((0:Int),((0:Int),((0:Int),(0:Int)))),(((0:Int),((0:Int),((0:Int),(0:Int)))),((bs []),[]))))))] [(2:Int)] (0:Int)) [(1:Int)])) (.no)) (.no)) (.leaf false)) (.no)) (.leaf false)) (.no)) (.leaf false)) (.no)
def ZdZ:Bool:=bif (ZP [((1:Int),(false,((0:Int),(((3:Int),((0:Int),((0:Int),(0:Int)))),(((2:Int),((0:Int),((0:Int),(1:Int)))),((bs []),[])))))),((1:Int),(false,((0:Int),(((1:Int),((0:Int),((0:Int),(0:Int)))),(((3:Int),((0:Int),((0:Int),(0:Int)))),((bs []),[])))))),((14:Int),(false,((0:Int),(((0:Int),((0:Int),((0:Int),(0:Int)))),(((0:Int),((0:Int),((0:Int),(0:Int)))),((bs []),[]))))))] [] (0:Int) (1:Int)) then bif (ZC [((1:Int),(false,((0:Int),(((3:Int),((0:Int),((0:Int),(0:Int)))),(((2:Int),((0:Int),((0:Int),(1:Int)))),((bs []),[])))))),((1:Int),(false,((0:Int),(((1:Int),((0:Int),((0:Int),(0:Int)))),(((3:Int),((0:Int),((0:Int),(0:Int)))),((bs []),[])))))),((14:Int),(false,((0:Int),(((0:Int),((0:Int),((0:Int),(0:Int)))),(((0:Int),((0:Int),((0:Int),(0:Int)))),((bs []),[]))))))] [] (0:Int) (1:Int)) then bif (ZP [((1:Int),(false,((0:Int),(((3:Int),((0:Int),((0:Int),(0:Int)))),(((2:Int),((0:Int),((0:Int),(1:Int)))),((bs []),[])))))),((1:Int),(false,((0:Int),(((1:Int),((0:Int),((0:Int),(0:Int)))),(((3:Int),((0:Int),((0:Int),(0:Int)))),((bs []),[])))))),((14:Int),(false,((0:Int),(((0:Int),((0:Int),((0:Int),(0:Int)))),(((0:Int),((0:Int),((0:Int),(0:Int)))),((bs []),[]))))))] [(1:Int)] (0:Int) (1:Int)) then bif (! (ZC [((1:Int),(false,((0:Int),(((3:Int),((0:Int),((0:Int),(0:Int)))),(((2:Int),((0:Int),((0:Int),(1:Int)))),((bs []),[])))))),((1:Int),(false,((0:Int),(((1:Int),((0:Int),((0:Int),(0:Int)))),(((3:Int),((0:Int),((0:Int),(0:Int)))),((bs []),[])))))),((14:Int),(false,((0:Int),(((0:Int),((0:Int),((0:Int),(0:Int)))),(((0:Int),((0:Int),((0:Int),(0:Int)))),((bs []),[]))))))] [(1:Int)] (0:Int) (1:Int))) then bif (ZP [((1:Int),(false,((0:Int),(((3:Int),((0:Int),((0:Int),(0:Int)))),(((2:Int),((0:Int),((0:Int),(1:Int)))),((bs []),[])))))),((1:Int),(false,((0:Int),(((1:Int),((0:Int),((0:Int),(0:Int)))),(((3:Int),((0:Int),((0:Int),(0:Int)))),((bs []),[])))))),((14:Int),(false,((0:Int),(((0:Int),((0:Int),((0:Int),(0:Int)))),(((0:Int),((0:Int),((0:Int),(0:Int)))),((bs []),[]))))))] [] (1:Int) (0:Int)) then bif (! (ZC [((1:Int),(false,((0:Int),(((3:Int),((0:Int),((0:Int),(0:Int)))),(((2:Int),((0:Int),((0:Int),(1:Int)))),((bs []),[])))))),((1:Int),(false,((0:Int),(((1:Int),((0:Int),((0:Int),(0:Int)))),(((3:Int),((0:Int),((0:Int),(0:Int)))),((bs []),[])))))),((14:Int),(false,((0:Int),(((0:Int),((0:Int),((0:Int),(0:Int)))),(((0:Int),((0:Int),((0:Int),(0:Int)))),((bs []),[]))))))] [] (1:Int) (0:Int))) then bif (Zaj [((1:Int),(false,((0:Int),(((3:Int),((0:Int),((0:Int),(0:Int)))),(((2:Int),((0:Int),((0:Int),(1:Int)))),((bs []),[])))))),((1:Int),(false,((0:Int),(((1:Int),((0:Int),((0:Int),(0:Int)))),(((3:Int),((0:Int),((0:Int),(0:Int)))),((bs []),[])))))),((14:Int),(false,((0:Int),(((0:Int),((0:Int),((0:Int),(0:Int)))),(((0:Int),((0:Int),((0:Int),(0:Int)))),((bs []),[]))))))] [(2:Int)] (0:Int)) then bif (Zae (Zk [((1:Int),(false,((0:Int),(((3:Int),((0:Int),((0:Int),(0:Int)))),(((2:Int),((0:Int),((0:Int),(1:Int)))),((bs []),[])))))),((1:Int),(false,((0:Int),(((1:Int),((0:Int),((0:Int),(0:Int)))),(((3:Int),((0:Int),((0:Int),(0:Int)))),((bs []),[])))))),((14:Int),(false,((0:Int),(((0:Int),((0:Int),((0:Int),(0:Int)))),(((0:Int),((0:Int),((0:Int),(0:Int)))),((bs []),[]))))))] [(2:Int)] (0:Int)) [(1:Int)]) then (Zan (Zk [((1:Int),(false,((0:Int),(((3:Int),((0:Int),((0:Int),(0:Int)))),(((2:Int),((0:Int),((0:Int),(1:Int)))),((bs []),[])))))),((1:Int),(false,((0:Int),(((1:Int),((0:Int),((0:Int),(0:Int)))),(((3:Int),((0:Int),((0:Int),(0:Int)))),((bs []),[])))))),((14:Int),(false,((0:Int),(((0:Int),((0:Int),((0:Int),(0:Int)))),(((0:Int),((0:Int),((0:Int),(0:Int)))),((bs []),[]))))))] [(2:Int)] (0:Int)) [(1:Int)]) else false else false else false else false else false else false else false else false
def Zd3:Bool:=bif (ZP [((1:Int),(false,((0:Int),(((3:Int),((0:Int),((0:Int),(0:Int)))),(((2:Int),((0:Int),((0:Int),(1:Int)))),((bs []),[])))))),((1:Int),(false,((0:Int),(((1:Int),((0:Int),((0:Int),(0:Int)))),(((3:Int),((0:Int),((0:Int),(0:Int)))),((bs []),[])))))),((14:Int),(false,((0:Int),(((0:Int),((0:Int),((0:Int),(0:Int)))),(((0:Int),((0:Int),((0:Int),(0:Int)))),((bs []),[]))))))] [] (0:Int) (1:Int)) then bif (ZC [((1:Int),(false,((0:Int),(((3:Int),((0:Int),((0:Int),(0:Int)))),(((2:Int),((0:Int),((0:Int),(1:Int)))),((bs []),[])))))),((1:Int),(false,((0:Int),(((1:Int),((0:Int),((0:Int),(0:Int)))),(((3:Int),((0:Int),((0:Int),(0:Int)))),((bs []),[])))))),((14:Int),(false,((0:Int),(((0:Int),((0:Int),((0:Int),(0:Int)))),(((0:Int),((0:Int),((0:Int),(0:Int)))),((bs []),[]))))))] [] (0:Int) (1:Int)) then bif (ZP [((1:Int),(false,((0:Int),(((3:Int),((0:Int),((0:Int),(0:Int)))),(((2:Int),((0:Int),((0:Int),(1:Int)))),((bs []),[])))))),((1:Int),(false,((0:Int),(((1:Int),((0:Int),((0:Int),(0:Int)))),(((3:Int),((0:Int),((0:Int),(0:Int)))),((bs []),[])))))),((14:Int),(false,((0:Int),(((0:Int),((0:Int),((0:Int),(0:Int)))),(((0:Int),((0:Int),((0:Int),(0:Int)))),((bs []),[]))))))] [(1:Int)] (0:Int) (1:Int)) then bif (! (ZC [((1:Int),(false,((0:Int),(((3:Int),((0:Int),((0:Int),(0:Int)))),(((2:Int),((0:Int),((0:Int),(1:Int)))),((bs []),[])))))),((1:Int),(false,((0:Int),(((1:Int),((0:Int),((0:Int),(0:Int)))),(((3:Int),((0:Int),((0:Int),(0:Int)))),((bs []),[])))))),((14:Int),(false,((0:Int),(((0:Int),((0:Int),((0:Int),(0:Int)))),(((0:Int),((0:Int),((0:Int),(0:Int)))),((bs []),[]))))))] [(1:Int)] (0:Int) (1:Int))) then bif (ZP [((1:Int),(false,((0:Int),(((3:Int),((0:Int),((0:Int),(0:Int)))),(((2:Int),((0:Int),((0:Int),(1:Int)))),((bs []),[])))))),((1:Int),(false,((0:Int),(((1:Int),((0:Int),((0:Int),(0:Int)))),(((3:Int),((0:Int),((0:Int),(0:Int)))),((bs []),[])))))),((14:Int),(false,((0:Int),(((0:Int),((0:Int),((0:Int),(0:Int)))),(((0:Int),((0:Int),((0:Int),(0:Int)))),((bs []),[]))))))] [] (1:Int) (0:Int)) then bif (! (ZC [((1:Int),(false,((0:Int),(((3:Int),((0:Int),((0:Int),(0:Int)))),(((2:Int),((0:Int),((0:Int),(1:Int)))),((bs []),[])))))),((1:Int),(false,((0:Int),(((1:Int),((0:Int),((0:Int),(0:Int)))),(((3:Int),((0:Int),((0:Int),(0:Int)))),((bs []),[])))))),((14:Int),(false,((0:Int),(((0:Int),((0:Int),((0:Int),(0:Int)))),(((0:Int),((0:Int),((0:Int),(0:Int)))),((bs []),[]))))))] [] (1:Int) (0:Int))) then bif (Zaj [((1:Int),(false,((0:Int),(((3:Int),((0:Int),((0:Int),(0:Int)))),(((2:Int),((0:Int),((0:Int),(1:Int)))),((bs []),[])))))),((1:Int),(false,((0:Int),(((1:Int),((0:Int),((0:Int),(0:Int)))),(((3:Int),((0:Int),((0:Int),(0:Int)))),((bs []),[])))))),((14:Int),(false,((0:Int),(((0:Int),((0:Int),((0:Int),(0:Int)))),(((0:Int),((0:Int),((0:Int),(0:Int)))),((bs []),[]))))))] [(2:Int)] (0:Int)) then bif (Zae (Zk [((1:Int),(false,((0:Int),(((3:Int),((0:Int),((0:Int),(0:Int)))),(((2:Int),((0:Int),((0:Int),(1:Int)))),((bs []),[])))))),((1:Int),(false,((0:Int),(((1:Int),((0:Int),((0:Int),(0:Int)))),(((3:Int),((0:Int),((0:Int),(0:Int)))),((bs []),[])))))),((14:Int),(false,((0:Int),(((0:Int),((0:Int),((0:Int),(0:Int)))),(((0:Int),((0:Int),((0:Int),(0:Int)))),((bs []),[]))))))] [(2:Int)] (0:Int)) [(1:Int)]) then true else false else false else true else false else true else false else true else false
theorem ZsY (hk:Zd3=true):Goes (Zmc) (ZkY) (ZdZ):=Goes.brk hk (fun hk=>Goes.brk hk (fun hk=>Goes.brk hk (fun hk=>Goes.brk hk (fun hk=>Goes.brk hk (fun hk=>Goes.brk hk (fun hk=>Goes.brk hk (fun hk=>Goes.brk hk (fun hk=>Goes.leaf) (fun hk=>Goes.nok hk)) (fun hk=>Goes.nok hk)) (fun hk=>Goes.leaf)) (fun hk=>Goes.nok hk)) (fun hk=>Goes.leaf)) (fun hk=>Goes.nok hk)) (fun hk=>Goes.leaf)) (fun hk=>Goes.nok hk)
def Zfq:Bool→AV:=fun (r:Bool)=>.d .bool r
def ZbH:Empty→Nat×St:=fun j=>nomatch j
theorem ZpS (L:Lt):entryA Go.Proofs.Tryd.prog (clOf Zir) Zg6 Go.Proofs.Tryd.f10 Ze7 L (toForms ZbQ (()))=(ZkY).run (fun v=>some (Zfq v,tps (toForms ZbQ (())))) fun j=>L (ZbH j).1 (ZbH j).2:=by kernel_rfl
theorem Zql:∀(L:Lt) (j:Empty),procOf (procsF Go.Proofs.Tryd.prog (clOf Zir) Zg6 Go.Proofs.Tryd.f10 Ze7 (toForms ZbQ (()))) (ZbH j).1 L (ZbH j).2=(Zmc j).run (fun v=>some (Zfq v,tps (toForms ZbQ (())))) fun j=>L (ZbH j).1 (ZbH j).2:=fun L j=>nomatch j
noncomputable def Zmz:Run:=entG ZbQ Zfq (fun a=>Zd3) (fun a=>ZdZ)
theorem ZpW:EntOK Go.Proofs.Tryd.prog 10 Zmz:=ZaH (tb:=Zg6) (c:=Ze7) Zp7 (by kernel_rfl) (by kernel_rfl) (by kernel_rfl) (fun a=>by kernel_rfl) fun _ hk=>Zi (c:=Ze7) (K:=fun v=>(Zfq v,tps (toForms ZbQ (())))) (S:=ZbH) (by kernel_rfl) (ZpS) (Zql) (ZsY hk)
end
end Go.Ev
end

section
open Go Go.Ev
namespace Go.Ev
noncomputable section
def ZF:Sig:=[(false,(.sl Ze)),(false,(.int .i64))]
noncomputable def ZeT:Tbl:=[(4,Zox),(5,Zno),(6,Zer),(8,ZiE),(9,ZoY),(7,Zf7),(10,Zmz)]
theorem Zm9:∀p∈ZeT,EntOK Go.Proofs.Tryd.prog p.1 p.2:=Zg Zul (Zg ZrO (Zg ZeM (Zg Zjk (Zg Ztr (Zg ZiW (Zg ZpW (Zn)))))))
noncomputable def Zc9:Code:=Go.Proofs.Tryd.f3.body.getD .skip
def Zht:Tb:=[(5,⟨[1,6,7],[]⟩)]
inductive ZbN where | l5 (i:Int) (t:List (List (El Za)))
def ZaZ (l:List (El Ze)) (s:Int):ZbN→JT ZbN (Bool) |.l5 i t=>.br (decide (i < (Int.ofNat (List.length (List.getD t 0 (dflt (.sl Za))))))) (.br ((decide ((0:Int)≤i))&&(decide (i < (Int.ofNat (List.length (List.getD t 0 (dflt (.sl Za)))))))) (.br (ZeI (List.getD (List.getD t 0 (dflt (.sl Za))) (Int.toNat i) (dflt Za))) (.br (Zcd (List.getD (List.getD t 0 (dflt (.sl Za))) (Int.toNat i) (dflt Za))) (.br ((decide ((0:Int)≤i))&&(decide (i < (Int.ofNat (List.length (List.getD t 0 (dflt (.sl Za)))))))) (.br ((decide ((0:Int)≤i))&&(decide (i < (Int.ofNat (List.length (List.getD t 0 (dflt (.sl Za)))))))) (.jmp (.l5 (IntKind.i64.wrap (i+(1:Int))) (List.set t 0 (List.set (List.getD t 0 (dflt (.sl Za))) (Int.toNat i) ((13:Int),(false,((0:Int),(((0:Int),((0:Int),((0:Int),(0:Int)))),(((0:Int),((0:Int),((0:Int),(0:Int)))),((bs []),(List.getD (List.getD t 0 (dflt (.sl Za))) (Int.toNat i) (dflt Za)).2.2.2.2.2.2)))))))))) (.no)) (.no)) (.jmp (.l5 (IntKind.i64.wrap (i+(1:Int))) t))) (.no)) (.no)) (.br (Zp s (Int.ofNat (List.length (List.getD t 0 (dflt (.sl Za)))))) (.br (Zaj (List.getD t 0 (dflt (.sl Za))) [] (Zb s (Int.ofNat (List.length (List.getD t 0 (dflt (.sl Za))))))) (.br (Zh7 (List.getD t 0 (dflt (.sl Za))) (Zb s (Int.ofNat (List.length (List.getD t 0 (dflt (.sl Za))))))) (.br (Zae (Zk (List.getD t 0 (dflt (.sl Za))) [] (Zb s (Int.ofNat (List.length (List.getD t 0 (dflt (.sl Za))))))) (ZbG (List.getD t 0 (dflt (.sl Za))) (Zb s (Int.ofNat (List.length (List.getD t 0 (dflt (.sl Za)))))))) (.br (Zan (Zk (List.getD t 0 (dflt (.sl Za))) [] (Zb s (Int.ofNat (List.length (List.getD t 0 (dflt (.sl Za))))))) (ZbG (List.getD t 0 (dflt (.sl Za))) (Zb s (Int.ofNat (List.length (List.getD t 0 (dflt (.sl Za)))))))) (.br Zd3 (.leaf ZdZ) (.no)) (.leaf false)) (.no)) (.no)) (.no)) (.no))
def Zd9 (l:List (El Ze)) (s:Int):JT ZbN (Bool):=.br (Zdj [l] (1:Int) (9:Int)) (.br (decide ((0:Int) < (Int.ofNat (List.length (ZO [l] (1:Int) (9:Int)).2)))) (.jmp (.l5 (0:Int) (ZO [l] (1:Int) (9:Int)).2)) (.no)) (.no)
def Zc8:Bool→AV:=fun (r:Bool)=>.d .bool r
def ZaF (l:List (El Ze)) (s:Int):ZbN→Nat×St |.l5 i t=>(5,⟨mkTm 54 [(1,.d (.int .i64) s),(6,.pt 7 0 0),(7,.d (.int .i64) i)],[(7,0,.box 31 [.dn 7169 0 [(0,0)]] none),(7169,0,.deep 31 (.ro (.leaf Za)) t)]⟩)
theorem ZmU (l:List (El Ze)) (s:Int) (L:Lt):entryA Go.Proofs.Tryd.prog (clOf ZeT) Zht Go.Proofs.Tryd.f3 Zc9 L (toForms ZF (l,s,()))=(Zd9 l s).run (fun v=>some (Zc8 v,tps (toForms ZF (l,s,())))) fun j=>L (ZaF l s j).1 (ZaF l s j).2:=by kernel_rfl
theorem Znb (l:List (El Ze)) (s:Int):∀(L:Lt) (j:ZbN),procOf (procsF Go.Proofs.Tryd.prog (clOf ZeT) Zht Go.Proofs.Tryd.f3 Zc9 (toForms ZF (l,s,()))) (ZaF l s j).1 L (ZaF l s j).2=(ZaZ l s j).run (fun v=>some (Zc8 v,tps (toForms ZF (l,s,())))) fun j=>L (ZaF l s j).1 (ZaF l s j).2 | L,.l5 i t=>by kernel_rfl
end
end Go.Ev
end

section
namespace Go.Ev
open Go
theorem Zq1 (i:El Za) (ls:List ByteArray):ZQ (setL i ls)=ZQ i:=rfl
theorem Zzf (i:El Za) (ls:List ByteArray):(setL i ls).2.2.2.2.2.1=i.2.2.2.2.2.1:=rfl
theorem ZqK {th:List (List (El Za))} {k r s n:Int} (h:k=3∨k=4→placeOK k s n=true):placeC (symsB,th) (k,(r,(s,n)))=0:=by
 show placeN 3 _ k s n=0
 unfold placeN
 by_cases hk:k=3∨k=4
 ·rw[if_pos hk]
  have:=h hk
  unfold placeOK at this
  simp only[Bool.and_eq_true,decide_eq_true_eq,Bool.or_eq_true,beq_iff_eq] at this
  obtain ⟨h0,h3,hn⟩:=this
  rw[if_neg (by omega)]
  have hs:s=0∨s=1∨s=2:=by omega
  rcases hs with rfl | rfl | rfl
  ·rw[if_neg]
   rintro ⟨h1,h2⟩
   have h2:(1:Int)≤n:=h2
   rcases hn with hn | hn
   ·omega
   ·have hn:n < (1:Int):=hn
    omega
  ·rw[if_neg]
   rintro ⟨h1,h2⟩
   have h2:(2:Int)≤n:=h2
   rcases hn with hn | hn
   ·omega
   ·have hn:n < (2:Int):=hn
    omega
  ·rw[if_neg]
   rintro ⟨h1,h2⟩
   have h2:(1:Int)≤n:=h2
   rcases hn with hn | hn
   ·omega
   ·have hn:n < (1:Int):=hn
    omega
 ·rw[if_neg hk]
theorem Zx3 {th:List (List (El Za))} {many:Int} {i:El Za} (h:BookOK many i) (ls:List ByteArray):insC (symsB,th) (setL i ls)=0:=by
 have hA:placeC (symsB,th) i.2.2.2.1=0:=ZqK (k:=i.2.2.2.1.1) (r:=i.2.2.2.1.2.1) (s:=i.2.2.2.1.2.2.1) (n:=i.2.2.2.1.2.2.2) h.placeA
 have hB:placeC (symsB,th) i.2.2.2.2.1=0:=ZqK (k:=i.2.2.2.2.1.1) (r:=i.2.2.2.2.1.2.1) (s:=i.2.2.2.2.1.2.2.1) (n:=i.2.2.2.2.1.2.2.2) h.placeB
 unfold insC
 rw[Zq1,h.right]
 show (if (0:Int)≠0 then _ else if placeC (symsB,th) i.2.2.2.1≠0 then _ else placeC (symsB,th) i.2.2.2.2.1)=0
 rw[hA,hB]
 rfl
theorem ZtX {p:El ZaC} {K:List ByteArray→Int} :∀(x:List (El Za)) (k:Nat) (seen:List ByteArray),
  (∀(j:Nat) (i:El Za),x[j]? =some i→(i.2.2.2.2.2.2=[]∨i.2.2.2.2.2.2=[Zd ((k+j:Nat):Int)])∧insC p i=0)→(∀l∈seen,∃k',k' < k∧l=Zd (k':Int))→k+x.length≤100→scanI p K seen x=K (seen++labels x)
 | [],k,seen,_,_,_=>by simp[scanI,labels]
 | i :: r,k,seen,h,hs,hk=>by
  obtain ⟨hl,hi⟩:=h 0 i rfl
  rw[List.length_cons] at hk
  have hr:=fun seen' hs'=>ZtX (K:=K) r (k+1) seen' (fun j y hy=>by
   have:=h (j+1) y (by simpa using hy)
   rwa[show k+(j+1)=k+1+j by omega] at this) hs' (by omega)
  unfold scanI
  rcases hl with hl | hl
  ·rw[hl]
   unfold scanL
   rw[hi]
   simp only[ne_eq,not_true_eq_false,if_false]
   rw[hr seen fun l hl=>by obtain ⟨k',h1,h2⟩:=hs l hl;exact ⟨k',by omega,h2⟩]
   unfold labels
   rw[List.flatMap_cons,hl,List.nil_append]
  ·rw[hl,Nat.add_zero]
   unfold scanL
   rw[if_neg (by rw[(ZhP (k:=(k:Int)) (by omega) (by omega)).1];decide)]
   have hns:seen.contains (Zd (k:Int))=false:=by
    rw[Bool.eq_false_iff]
    intro hc
    rw[List.contains_iff_mem] at hc
    obtain ⟨k',h1,h2⟩:=hs _ hc
    have:=ZxP (by omega) (by omega) h2
    omega
   rw[if_neg (by rw[hns];decide)]
   unfold scanL
   rw[hi]
   simp only[ne_eq,not_true_eq_false,if_false]
   rw[hr _ fun l hl=>by
    rcases List.mem_append.1 hl with hl | hl
    ·obtain ⟨k',h1,h2⟩:=hs l hl;exact ⟨k',by omega,h2⟩
    ·rw[List.mem_singleton] at hl;exact ⟨k,by omega,hl⟩]
   unfold labels
   rw[List.flatMap_cons,hl,Nat.add_zero,List.append_assoc]
theorem Zu0 {seen:List ByteArray} :∀ {x:List (El Za)},(∀i∈x,((i.1==(10:Int)) || (i.1==(11:Int)))=true→seen.contains i.2.2.2.2.2.1=true)→jumpC seen x=0
 | [],_=>rfl
 | i :: r,h=>by
  unfold jumpC
  have ih:=Zu0 fun j hj=>h j (List.mem_cons_of_mem _ hj)
  by_cases hj:((i.1==(10:Int)) || (i.1==(11:Int)))=true
  ·rw[if_pos hj,if_pos (h i (List.mem_cons_self ..) hj)];exact ih
  ·rw[if_neg hj];exact ih
theorem Zfz {a:List (El Ze)} {n:Nat} (hn:n≤90) (ha:n≤a.length) {k:Nat} {i:El Za} (h:(threadB a n)[k]? =some i):
  (k < n∧∃x,(baseT a n)[k]? =some x∧BookOK ((n+1:Nat):Int) x∧i=setL x (if sAt (baseT a n) n k then [Zd (k:Int)] else []))∨(k=n∧i=setL (bare 14) (if sAt (baseT a n) n k then [Zd (k:Int)] else [])):=by
 have hl:=ZjQ a n ha
 obtain ⟨hk,he⟩:=List.getElem?_eq_some_iff.1 h
 unfold threadB at hk he
 rw[ZdO hk] at he
 rw[ZaP,hl] at hk
 by_cases hkn:k < n
 ·obtain ⟨x,h1,h2⟩:=ZwG hn hkn ha
  obtain ⟨h3,h4⟩:=List.getElem?_eq_some_iff.1 h1
  rw[h4] at he
  exact .inl ⟨hkn,_,h1,h2,he.symm⟩
 ·have hkn:k=n:=by omega
  subst hkn
  have:(baseT a k)[k]'(by omega)=bare 14:=by
   unfold baseT
   rw[List.getElem_append_right (by simp;omega)]
   simp
  rw[this] at he
  exact .inr ⟨rfl,he.symm⟩
theorem Zvp (many:Int) (ls:List ByteArray) {th:List (List (El Za))} :insC (symsB,th) (setL (bare 14) ls)=0:=by
 unfold insC
 rw[Zq1,Zw5 (.inr (.inr rfl))]
 rfl
theorem ZwP {x:List (El Za)} {k:Nat} {i:El Za} {l:ByteArray} (h:x[k]? =some i) (hl:l∈i.2.2.2.2.2.2):(labels x).contains l=true:=by
 rw[List.contains_iff_mem]
 unfold labels
 exact List.mem_flatMap.2 ⟨i,List.mem_of_getElem? h,hl⟩
theorem Zun {a:List (El Ze)} {n:Nat} (hn:n≤90) (ha:n≤a.length) {th:List (List (El Za))} :threadC (symsB,th) (threadB a n)=0:=by
 have hlen:(threadB a n).length=n+1:=by unfold threadB;rw[ZaP,ZjQ a n ha]
 unfold threadC
 have hc:=ZxY (threadB a n)
 rw[if_neg (by omega),ZtX (threadB a n) 0 [] (fun j i h=>by
  rw[Nat.zero_add]
  rcases Zfz hn ha h with ⟨_,x,_,hx,rfl⟩ | ⟨_,rfl⟩
  ·refine ⟨?_,Zx3 hx _⟩
   show (if _ then [Zd (j:Int)] else [])=[]∨(if _ then [Zd (j:Int)] else [])=[Zd (j:Int)]
   split
   ·exact .inr rfl
   ·exact .inl rfl
  ·refine ⟨?_,Zvp 0 _⟩
   show (if _ then [Zd (j:Int)] else [])=[]∨(if _ then [Zd (j:Int)] else [])=[Zd (j:Int)]
   split
   ·exact .inr rfl
   ·exact .inl rfl) (fun l hl=>by cases hl) (by omega)]
 rw[List.nil_append,Zy4 (by omega)]
 have hlast:(threadB a n)[(threadB a n).length - 1]? =some ((threadB a n)[(threadB a n).length - 1]'(by omega)):=List.getElem?_eq_getElem (by omega)
 have h14:(((threadB a n)[(threadB a n).length - 1]'(by omega)).1==(10:Int) || ((threadB a n)[(threadB a n).length - 1]'(by omega)).1==(14:Int))=true:=by
  rcases Zfz hn ha hlast with ⟨h1,_⟩ | ⟨_,h2⟩
  ·omega
  ·rw[h2];rfl
 rw[if_pos h14]
 refine Zu0 fun i hi hj=>?_
 obtain ⟨k,hk⟩:=List.getElem?_of_mem hi
 rcases Zfz hn ha hk with ⟨hkn,x,hx,hb,rfl⟩ | ⟨_,rfl⟩
 ·rw[Zzf]
  rcases hb.to with ⟨h1,h2,_⟩ | ⟨_,m,m0,m1,e⟩
  ·exfalso
   have hj:((x.1==(10:Int)) || (x.1==(11:Int)))=true:=hj
   simp only[Bool.or_eq_true,beq_iff_eq] at hj
   rcases hj with hj | hj
   ·exact h1 hj
   ·exact h2 hj
  ·rw[e]
   obtain ⟨q,rfl⟩:∃q:Nat,m=(q:Int):=⟨m.toNat,by omega⟩
   have hqn:q < n+1:=by omega
   have hq:(threadB a n)[q]? =some ((threadB a n)[q]'(by omega)):=List.getElem?_eq_getElem (by omega)
   have hs:sAt (baseT a n) n q=true:=by
    unfold sAt
    rw[List.any_eq_true]
    exact ⟨x,List.mem_of_getElem? (i:=k) (by rw[List.getElem?_take,if_pos hkn];exact hx),decide_eq_true e⟩
   refine ZwP hq ?_
   rcases Zfz hn ha hq with ⟨_,y,_,_,h2⟩ | ⟨_,h2⟩
   ·rw[h2,hs];exact List.mem_singleton.2 rfl
   ·rw[h2,hs];exact List.mem_singleton.2 rfl
 ·cases hj
theorem Zw3 {a:List (El Ze)} {n:Nat} (hn:n≤90) (ha:n≤a.length):smallThread (threadB a n)=true:=by
 have hlen:(threadB a n).length=n+1:=by unfold threadB;rw[ZaP,ZjQ a n ha]
 have hlab:∀i∈threadB a n,smallText i.2.2.2.2.2.1=true∧i.2.2.2.2.2.2.length≤1∧∀l∈i.2.2.2.2.2.2,smallText l=true:=fun i hi=>by
  obtain ⟨k,hk⟩:=List.getElem?_of_mem hi
  have hkl:=(List.getElem?_eq_some_iff.1 hk).1
  have hls:∀b:Bool,(if b=true then [Zd (k:Int)] else []).length≤1∧∀l∈(if b=true then [Zd (k:Int)] else []),smallText l=true:=fun b=>by
   cases b with
   | false=>exact ⟨by simp,fun l hl=>by simp at hl⟩
   | true=>exact ⟨by simp,fun l hl=>by
     rw[if_pos rfl,List.mem_singleton] at hl
     rw[hl];exact (ZhP (by omega) (by omega)).2⟩
  rcases Zfz hn ha hk with ⟨hkn,x,hx,hb,rfl⟩ | ⟨_,rfl⟩
  ·exact ⟨hb.small (by omega),hls _⟩
  ·exact ⟨(by decide:smallText (bs [])=true),hls _⟩
 have:=ZxJ (t:=threadB a n) (n:=1) fun i hi=>(hlab i hi).2.1
 unfold smallThread
 simp only[Bool.and_eq_true,decide_eq_true_eq,List.all_eq_true]
 exact ⟨by omega,by omega,fun i hi=>⟨(hlab i hi).1,(hlab i hi).2.2⟩⟩
theorem ZwT (K:Int):symsC K [] symsB=K:=by kernel_rfl
theorem ZuQ {p:El ZaC} :∀ {th:List (List (El Za))},(∀t∈th,threadC p t=0)→thsC p th=0
 | [],_=>rfl
 | t :: r,h=>by
  unfold thsC
  rw[h t (List.mem_cons_self ..)]
  simp only[ne_eq,not_true_eq_false,if_false]
  exact ZuQ fun x hx=>h x (List.mem_cons_of_mem _ hx)
theorem ZwO (l:List (List (El Ze))) {threads many:Int} (h0:0≤threads) (h1:threads≤64) (m0:0≤many) (m1:many≤90):checkC (ZO l threads many)=0∧smallProg (ZO l threads many)=true∧Zdj l threads many=true:=by
 refine ⟨?_,?_,?_⟩
 ·unfold checkC ZO
  show (if 64 < symsB.length∨64 < ((l.take threads.toNat).map fun a=>threadB a (min a.length many.toNat)).length then (10:Int) else symsC (thsC _ ((l.take threads.toNat).map fun a=>threadB a (min a.length many.toNat))) [] symsB)=0
  rw[if_neg,ZwT]
  ·exact ZuQ fun t ht=>by
    obtain ⟨a,_,rfl⟩:=List.mem_map.1 ht
    exact Zun (by omega) (by omega)
  ·rw[List.length_map,List.length_take]
   have:symsB.length=3:=rfl
   omega
 ·unfold smallProg ZO
  simp only[Bool.and_eq_true,List.all_eq_true]
  refine ⟨?_,fun t ht=>?_⟩
  ·have:symsB.all (fun s=>smallText s.1)=true:=by decide+kernel
   rw[List.all_eq_true] at this
   exact this
  ·obtain ⟨a,_,rfl⟩:=List.mem_map.1 ht
   exact Zw3 (by omega) (by omega)
 ·unfold Zdj
  simp only[Bool.and_eq_true,decide_eq_true_eq]
  omega
end Go.Ev
end

section
open Go
namespace Go.Ev
theorem ZvK {t:List (El Za)} (h:smallThread t=true):flowOK t=true:=by
 unfold smallThread at h
 simp only[Bool.and_eq_true,List.all_eq_true,decide_eq_true_eq] at h
 unfold flowOK
 simp only[Bool.and_eq_true,List.all_eq_true,decide_eq_true_eq]
 refine ⟨h.1,fun i hi=>⟨(h.2.2 i hi).1,?_⟩⟩
 have:=Zw9 hi
 omega
theorem ZyI (l:List (El Ze)) {many:Int} (m0:0≤many) (m1:many≤90):∃t:List (El Za),(ZO [l] (1:Int) many).2=[t]∧1≤t.length∧(t.length:Int)≤many+1∧smallThread t=true∧flowOK t=true∧Zdj [l] (1:Int) many=true:=by
 obtain ⟨_,hs,hk⟩:=ZwO [l] (threads:=1) (many:=many) (by omega) (by omega) m0 m1
 have e:(ZO [l] (1:Int) many).2=[threadB l (min l.length many.toNat)]:=rfl
 have hl:(threadB l (min l.length many.toNat)).length=min l.length many.toNat+1:=by unfold threadB;rw[ZaP,ZjQ l _ (Nat.min_le_left _ _)]
 have hsm:smallThread (threadB l (min l.length many.toNat))=true:=by
  unfold smallProg at hs
  rw[Bool.and_eq_true,e] at hs
  exact List.all_eq_true.1 hs.2 _ (by simp)
 exact ⟨_,e,by omega,by omega,hsm,ZvK hsm,hk⟩
end Go.Ev
end

section
open Go
namespace Go.Ev
theorem Zu2 {n:Nat} {M:Nat→Bool} :(listOf n M).length≤n:=by rw[Zmm];exact Zm7
theorem Zpt {n:Nat} {M:Nat→Bool} {x:Int} :(listOf n M).contains x=(decide (0≤x∧x < (n:Int))&&M x.toNat):=by
 rw[Bool.eq_iff_iff,List.contains_iff_mem,ZcD]
 simp only[Bool.and_eq_true,decide_eq_true_eq]
 constructor
 ·rintro ⟨i,h1,h2,rfl⟩;exact ⟨by omega,by rw[Int.toNat_natCast];exact h2⟩
 ·rintro ⟨h1,h2⟩;exact ⟨x.toNat,by omega,h2,by omega⟩
theorem Zxk {l:List Int} (h:l.length < 1099511627776):Zae l l=true∧Zan l l=true:=⟨decide_eq_true (by omega),decide_eq_true rfl⟩
theorem Zpz {t:List (El Za)} {points:List Int} (h:flowOK t=true) (hp:points.length < 4611686018427387904) (s:Int):
  Zaj t points s=true∧Zae (Zk t points s) (Zk t points s)=true∧Zan (Zk t points s) (Zk t points s)=true:=by
 have k1:Zaj t points s=true:=by unfold Zaj;rw[h,decide_eq_true hp];rfl
 have hl:=Zfx h
 exact ⟨k1,Zxk (by unfold Zk;have:= @Zu2 t.length (endsB t points s);omega)⟩
theorem Zpl {t:List (El Za)} {points:List Int} (h:flowOK t=true) (hp:points.length < 4611686018427387904) (s l:Int):
  ZP t points s l=true∧ZC t points s l=(decide (0≤l∧l < (t.length:Int))&&endsB t points s l.toNat):=by
 obtain ⟨k1,_⟩:=Zpz h hp s
 have hl:=Zfx h
 have ki:ZR (Zk t points s) l=true:=decide_eq_true (by unfold Zk;have:= @Zu2 t.length (endsB t points s);omega)
 have vr:ZC t points s l=(decide (0≤l∧l < (t.length:Int))&&endsB t points s l.toNat):=by
  unfold ZC ZA ZV
  rw[k1,ki]
  simp only[cond_true]
  unfold Zad
  rw[Zt3]
  unfold Zk
  exact Zpt
 refine ⟨?_,vr⟩
 unfold ZP ZA;rw[k1,ki];rfl
end Go.Ev
end

section
open Go
namespace Go.Ev
noncomputable section
def Zj:List (El Za):=[((1:Int),(false,((0:Int),(((3:Int),((0:Int),((0:Int),(0:Int)))),(((2:Int),((0:Int),((0:Int),(1:Int)))),((bs []),[])))))),((1:Int),(false,((0:Int),(((1:Int),((0:Int),((0:Int),(0:Int)))),(((3:Int),((0:Int),((0:Int),(0:Int)))),((bs []),[])))))),((14:Int),(false,((0:Int),(((0:Int),((0:Int),((0:Int),(0:Int)))),(((0:Int),((0:Int),((0:Int),(0:Int)))),((bs []),[]))))))]
def ZkS (t:List (El Za)):Bool:=
 bif (ZP t [] (0:Int) (1:Int)) then
  bif (ZC t [] (0:Int) (1:Int)) then
   bif (ZP t [(1:Int)] (0:Int) (1:Int)) then
    bif (! (ZC t [(1:Int)] (0:Int) (1:Int))) then
     bif (ZP t [] (1:Int) (0:Int)) then
      bif (! (ZC t [] (1:Int) (0:Int))) then
       bif (Zaj t [(2:Int)] (0:Int)) then
        bif (Zae (Zk t [(2:Int)] (0:Int)) [(1:Int)]) then
         true
        else false
       else false
      else true
     else false
    else true
   else false
  else true
 else false
def ZkR (t:List (El Za)):Bool:=
 bif (ZP t [] (0:Int) (1:Int)) then
  bif (ZC t [] (0:Int) (1:Int)) then
   bif (ZP t [(1:Int)] (0:Int) (1:Int)) then
    bif (! (ZC t [(1:Int)] (0:Int) (1:Int))) then
     bif (ZP t [] (1:Int) (0:Int)) then
      bif (! (ZC t [] (1:Int) (0:Int))) then
       bif (Zaj t [(2:Int)] (0:Int)) then
        bif (Zae (Zk t [(2:Int)] (0:Int)) [(1:Int)]) then
         (Zan (Zk t [(2:Int)] (0:Int)) [(1:Int)])
        else false
       else false
      else false
     else false
    else false
   else false
  else false
 else false
theorem Zm5:Zd3=ZkS Zj:=rfl
theorem ZmR:ZdZ=ZkR Zj:=rfl
end
end Go.Ev
end

section
open Go
namespace Go.Ev
theorem alive21:Zd3=true∧ZdZ=true:=by
 rw[Zm5,ZmR]
 have hk:flowOK Zj=true:=by decide+kernel
 have hl3:Zj.length=3:=rfl
 have nx:∀i,i < 3→∀j,j < 3→nextB Zj ((i:Nat):Int) j=decide (j=i+1):=by decide+kernel
 have hlt:∀(k j:Nat),nextB Zj (k:Int) j=true→j < 3∧k < 3:=fun k j h=>by
  refine ⟨Zgr h,?_⟩
  unfold nextB at h
  rw[Bool.and_eq_true] at h
  have:=(of_decide_eq_true h.1).2.1
  rw[hl3] at this
  omega
 have nx1:∀(k j:Nat),nextB Zj (k:Int) j=true→j=k+1∧j < 3:=fun k j h=>by
  obtain ⟨h1,h2⟩:=hlt k j h
  rw[nx k h2 j h1] at h
  exact ⟨of_decide_eq_true h,h1⟩
 have first:∀ {points:List Int} {s j:Nat},firstB Zj points (s:Int) j=true→j=s+1∧j < 3∧points.contains (j:Int)=false:=fun {points s j} h=>by
  unfold firstB at h
  rw[Bool.and_eq_true] at h
  obtain ⟨h1,h2⟩:=nx1 s j h.1
  exact ⟨h1,h2,by simpa using h.2⟩
 have step:∀ {points:List Int} {k j:Nat},stepB Zj points k j=true→j=k+1∧j < 3∧points.contains (j:Int)=false:=fun {points k j} h=>by
  unfold stepB at h
  rw[Bool.and_eq_true,Bool.and_eq_true] at h
  obtain ⟨h1,h2⟩:=nx1 k j h.2.1
  exact ⟨h1,h2,by simpa using h.2.2⟩
 have e1:endsB Zj [] ((0:Nat):Int) 1=true:=ZlK.2 (.start (by decide+kernel))
 have e2:∀j,endsB Zj [1] ((0:Nat):Int) j=false:=fun j=>by
  refine (ZlU (M:=fun _=>false) (fun j hj=>?_) (fun k j hk=>by cases hk) (fun j hj=>by cases hj) j).symm
  obtain ⟨h1,_,h3⟩:=first hj
  subst h1
  exact absurd h3 (by decide)
 have e3:endsB Zj [] ((1:Nat):Int) 0=false:=by
  have:=(ZlU (N:=stepB Zj []) (A:=firstB Zj [] ((1:Nat):Int)) (M:=fun j=>decide (j=2)) (fun j hj=>?_) (fun k j hk hj=>?_) (fun j hj=>?_) 0).symm
  ·exact this
  ·obtain ⟨h1,_⟩:=first hj;exact decide_eq_true (by omega)
  ·obtain ⟨h1,h2,_⟩:=step hj
   have:=of_decide_eq_true hk
   omega
  ·have:=of_decide_eq_true hj
   subst this
   exact .start (by decide+kernel)
 have e4:∀j,endsB Zj [2] ((0:Nat):Int) j=decide (j=1):=fun j=>by
  refine (ZlU (M:=fun j=>decide (j=1)) (fun j hj=>?_) (fun k j hk hj=>?_) (fun j hj=>?_) j).symm
  ·obtain ⟨h1,_⟩:=first hj;exact decide_eq_true (by omega)
  ·obtain ⟨h1,h2,h3⟩:=step hj
   have:=of_decide_eq_true hk
   subst this
   subst h1
   exact absurd h3 (by decide)
  ·have:=of_decide_eq_true hj
   subst this
   exact .start (by decide+kernel)
 obtain ⟨a1,a2⟩:=Zpl (points:=[]) hk (by simp) 0 1
 obtain ⟨b1,b2⟩:=Zpl (points:=[1]) hk (by simp) 0 1
 obtain ⟨c1,c2⟩:=Zpl (points:=[]) hk (by simp) 1 0
 obtain ⟨d1,d3,d4⟩:=Zpz (points:=[2]) hk (by simp) 0
 have a3:ZC Zj [] 0 1=true:=by
  rw[a2,hl3,show endsB Zj [] 0 (Int.toNat 1)=true from e1];rfl
 have b3:ZC Zj [1] 0 1=false:=by
  rw[b2,show endsB Zj [1] 0 (Int.toNat 1)=false from e2 1,Bool.and_false]
 have c3:ZC Zj [] 1 0=false:=by
  rw[c2,show endsB Zj [] 1 (Int.toNat 0)=false from e3,Bool.and_false]
 have d2:Zk Zj [2] 0=[1]:=by
  unfold Zk
  rw[show endsB Zj [2] 0=fun j=>decide (j=1) from funext e4,hl3]
  rfl
 rw[d2] at d3 d4
 unfold ZkS ZkR
 rw[a1,a3,b1,b3,c1,c3,d1,d2]
 exact ⟨by decide+kernel,by decide+kernel⟩
end Go.Ev
end

section
open Go
namespace Go.Ev
theorem ZyZ {i:El Za} (h:smallText i.2.2.2.2.2.1=true):ZcA i=true∧ZeI i=true:=by
 have h0:Zak i=true:=h
 have h1:Zab i=true:=h
 have a:Z7 i=true:=by unfold Z7;simp only[h0,cond_true,Bool.cond_self]
 have b:Zah i=true:=by unfold Zah;simp only[h1,cond_true,Bool.cond_self]
 unfold ZcA ZeI
 simp only[h0,h1,a,b,cond_true,Bool.cond_self,and_self]
theorem Zxn {i:El Za} (h:smallText i.2.2.2.2.2.1=true):Zcd i=Zcl i:=by
 have h0:Zak i=true:=h
 have h1:Zab i=true:=h
 have a:Z7 i=true:=by unfold Z7;simp only[h0,cond_true,Bool.cond_self]
 have b:Zah i=true:=by unfold Zah;simp only[h1,cond_true,Bool.cond_self]
 have c:Za6 i=Zby i:=by
  unfold Za6 Zby ZZ
  simp only[h0,h1]
 unfold Zcd Zcl ZZ
 simp only[h0,h1,a,b,c]
end Go.Ev
end

section
open Go
namespace Go.Ev
def ZeV (l:List (El Ze)) (s:Int):Bool:=true
def ZiQ (l:List (El Ze)) (s:Int):Bool:=true
def noF (x:El Za):El Za:=if Zcd x=true then ((13:Int),(false,((0:Int),(((0:Int),((0:Int),((0:Int),(0:Int)))),(((0:Int),((0:Int),((0:Int),(0:Int)))),((bs []),x.2.2.2.2.2.2)))))) else x
theorem ZyU (x:El Za):(noF x).2.2.2.2.2.2=x.2.2.2.2.2.2:=by unfold noF;split <;> rfl
theorem ZyN {x:El Za} (h:smallText x.2.2.2.2.2.1=true):smallText (noF x).2.2.2.2.2.1=true:=by
 unfold noF;split
 ·rfl
 ·exact h
theorem Zxg {x:El Za} (h:smallText x.2.2.2.2.2.1=true):Zcl (noF x)=false:=by
 unfold noF
 split
 ·rfl
 ·rename_i hn
  rw[←Zxn h]
  simpa using hn
theorem ZyR {t:List (El Za)} (h:flowOK t=true):flowOK (t.map noF)=true:=by
 unfold flowOK at h ⊢
 simp only[Bool.and_eq_true,List.all_eq_true,decide_eq_true_eq,List.length_map,List.mem_map] at h ⊢
 refine ⟨h.1,fun y hy=>?_⟩
 obtain ⟨x,hx,rfl⟩:=hy
 exact ⟨ZyN (h.2 x hx).1,by rw[ZyU];exact (h.2 x hx).2⟩
theorem ZxS {t:List (El Za)} (hn:∀j,j < t.length→fenceAtT t j=false) (s:Int):Zk t [] s=ZbG t s:=by
 unfold Zk ZbG endsB fromB
 refine Zjd fun j hj=>?_
 clear hj
 rw[Bool.eq_iff_iff,ZlK,ZlK]
 have hf:firstB t [] s=nextB t s:=by funext j;unfold firstB;simp
 rw[hf]
 constructor
 ·exact Zx5 (fun j h=>h) fun k j h=>by
   unfold stepB at h
   simp only[Bool.and_eq_true] at h
   exact h.2.1
 ·intro h
  induction h with
  | start h=>exact .start h
  | @step k j hc h ih=>
   refine .step ih ?_
   have hk:k < t.length:=Zxx (fun j=>Zgr) (fun k j=>Zgr) hc
   unfold stepB
   rw[hn k hk,h]
   simp
theorem ZnW (l:List (El Ze)) (s:Int) (hk:ZiQ l s=true):Goes (ZaZ l s) (Zd9 l s) (ZeV l s):=by
 obtain ⟨ka,va⟩:=alive21
 obtain ⟨t,hP,ht1,ht2,_,hf,kp⟩:=ZyI l (many:=9) (by omega) (by omega)
 have hlen:=Zfx hf
 unfold Zd9 ZeV
 rw[hP,Zf,if_pos kp,Zf,if_pos (by simp)]
 have fin:Goes (ZaZ l s) (.jmp (.l5 (t.length:Int) [t.map noF])) true:=by
  have hg:List.getD [t.map noF] 0 (dflt (.sl Za))=t.map noF:=rfl
  have hl:(t.map noF).length=t.length:=List.length_map ..
  have hf':=ZyR hf
  obtain ⟨kpk,_,_⟩:=Zb1 (n:=s) (m:=(t.length:Int)) (by omega) (by omega)
  rw[Zq,ZaZ,hg,hl,Zf,if_neg (by rw[Za3 (Nat.lt_irrefl _)];decide),Zf,if_pos (show Zp s (Int.ofNat t.length)=true from kpk)]
  generalize Zb s (Int.ofNat t.length)=s'
  obtain ⟨a1,a2,a3⟩:=Zpz (points:=[]) hf' (by simp) s'
  have hno:∀j,j < (t.map noF).length→fenceAtT (t.map noF) j=false:=fun j hj=>by
   rw[hl] at hj
   unfold fenceAtT
   rw[List.getD_eq_getElem?_getD,List.getElem?_map,List.getElem?_eq_getElem hj]
   exact Zxg (ZiP hf (List.getElem_mem hj))
  rw[Zf,if_pos a1,Zf,if_pos (show Zh7 (t.map noF) s'=true from hf'),←ZxS hno,Zf,if_pos a2,Zf,if_pos a3,Zf,if_pos ka,va]
  exact .leaf
 have loop:∀i,i≤t.length→Goes (ZaZ l s) (.jmp (.l5 (i:Int) [(t.take i).map noF++t.drop i])) true:=by
  refine down ?_ fun i hi ih=>?_
  ·rw[List.take_length,List.drop_length,List.append_nil]
   exact fin
  ·have hg:List.getD [(t.take i).map noF++t.drop i] 0 (dflt (.sl Za))=(t.take i).map noF++t.drop i:=rfl
   have hl:((t.take i).map noF++t.drop i).length=t.length:=by simp;omega
   have hx:List.getD ((t.take i).map noF++t.drop i) i (dflt Za)=t[i]:=by
    rw[List.getD_eq_getElem?_getD,List.getElem?_append_right (by simp;omega)]
    simp[Nat.min_eq_left (Nat.le_of_lt hi),List.getElem?_eq_getElem hi]
   have hs:List.set ((t.take i).map noF++t.drop i) i (noF t[i])=(t.take (i+1)).map noF++t.drop (i+1):=by
    have hml:((t.take i).map noF).length=i:=by rw[List.length_map,List.length_take,Nat.min_eq_left (Nat.le_of_lt hi)]
    rw[List.set_append_right _ _ (by omega),hml,Nat.sub_self,ZaN hi,List.set_cons_zero,List.take_succ_eq_append_getElem hi,List.map_append,List.append_assoc]
    rfl
   have htx:=ZiP hf (List.getElem_mem hi)
   have kf:=(ZyZ htx).2
   rw[Zq,ZaZ,hg,hl,Zf,if_pos (Zb4 hi),Zf,if_pos (Zcs hi),Int.toNat_natCast,hx,Zf,if_pos kf,Zf]
   rw[Z4 (by omega)]
   by_cases hfe:Zcd t[i]=true
   ·rw[if_pos hfe,Zf,if_pos (Zcs hi),Zf,if_pos (Zcs hi)]
    have e:noF t[i]=((13:Int),(false,((0:Int),(((0:Int),((0:Int),((0:Int),(0:Int)))),(((0:Int),((0:Int),((0:Int),(0:Int)))),((bs []),t[i].2.2.2.2.2.2)))))):=by unfold noF;rw[if_pos hfe]
    rw[←e,hs]
    exact ih
   ·rw[if_neg hfe]
    have e:noF t[i]=t[i]:=by unfold noF;rw[if_neg hfe]
    rw[←hs,e,←hx,show List.set ((t.take i).map noF++t.drop i) i (List.getD ((t.take i).map noF++t.drop i) i (dflt Za))=(t.take i).map noF++t.drop i from ?_] at ih
    ·exact ih
    ·rw[List.getD_eq_getElem?_getD,List.getElem?_eq_getElem (by rw[hl];exact hi)]
     simp
 have:=loop 0 (Nat.zero_le _)
 simpa using this
end Go.Ev
end

section
open Go Go.Ev
namespace Go.Ev
noncomputable section
theorem ZmZ (l:List (El Ze)) (s:Int) (hk:ZiQ l s=true):CallOK Go.Proofs.Tryd.prog 3 (toForms ZF (l,s,())) (Zc8 (ZeV l s),tps (toForms ZF (l,s,()))):=by
 obtain ⟨h1,h2⟩:=ZmK Zm9
 obtain ⟨n,hn⟩:=Zi (c:=Zc9) (K:=fun v=>(Zc8 v,tps (toForms ZF (l,s,())))) (S:=ZaF l s) (by kernel_rfl) (ZmU l s) (Znb l s) (ZnW l s hk)
 exact ZmH (f:=3) (c:=Zc9) h1 h2 (by kernel_rfl) (by kernel_rfl) (by kernel_rfl) hn
end
end Go.Ev
end

section
namespace Go.Ev
open Go
theorem Zlc (a:Args ZF) (ha:smallArgs ZF a):CallOK Go.Proofs.Tryd.prog Zl2 (toForms ZF a) (.d .bool true,tps (toForms ZF a)):=by
 obtain ⟨l,s,_⟩:=a
 exact ZmZ l s rfl
end Go.Ev
end

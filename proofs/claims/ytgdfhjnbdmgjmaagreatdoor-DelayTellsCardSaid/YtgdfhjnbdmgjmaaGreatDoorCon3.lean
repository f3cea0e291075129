/- Part of the proof of: The delays of a program, and those that are open, are what the document says, of the programs that the book makes: for every input the law answers true. -/
import Derived.Test.YtgdfhjnbdmgjmaaGreatDoorCon2
set_option maxRecDepth 100000
set_option linter.unusedSectionVars false
set_option linter.unusedVariables false
set_option linter.unusedSimpArgs false
section
open Go
namespace Go.Ev
theorem alive24:k_law24_alive=true∧v_law24_alive=true:=by
 have hs:smallAll v_law24_both=true:=by decide+kernel
 have hN:(ofC v_law24_both).length=4:=by decide+kernel
 have hT:v_law24_both.2.length=2:=by decide+kernel
 obtain ⟨k1,k2,e1,_,k3,_⟩:=delays_all hs (by omega) (by omega)
 have vp:v_delay_Pairs v_law24_both=[((0:Int),((0:Int),(1:Int))),((1:Int),((0:Int),(1:Int)))]:=by
  rw[←e1,delsX_eq]
  decide+kernel
 have op:∀x:El T_api_Pair,x∈v_ref3_Delays v_law24_both→openB v_law24_both x=(decide (0≤x.2.2∧x.2.2 < ((List.getD v_law24_both.2 (Int.toNat x.1) (dflt (.sl T_api_Ins))).length:Int))&&endsX (List.getD v_law24_both.2 (Int.toNat x.1) (dflt (.sl T_api_Ins))) [] x.2.1 x.2.2.toNat):=fun x hx=>by
  obtain ⟨s,r,h1,h2,_,_,rfl⟩:=dels_mem hx
  obtain ⟨_,_,hf,_⟩:=acc_facts hs h1
  have hf':flowOK (List.getD v_law24_both.2 (Int.toNat (delPair (ofC v_law24_both) s r).1) (dflt (.sl T_api_Ins)))=true:=hf
  obtain ⟨_,_,_,f4⟩:=free_eqO hf' (points:=[]) (by decide) (delPair (ofC v_law24_both) s r).2.1 (delPair (ofC v_law24_both) s r).2.2
  unfold openB
  rw[f4,endsX_eq]
 have vo:v_delay_Open v_law24_both=[((0:Int),((0:Int),(1:Int))),((1:Int),((0:Int),(1:Int)))]:=by
  unfold v_delay_Open
  rw[e1,vp] at op
  rw[vp,List.filter_congr op]
  decide+kernel
 have k0:k_delay_Pairs ([],[])=true:=by decide+kernel
 have v0:v_delay_Pairs ([],[])=[]:=rfl
 unfold k_law24_alive v_law24_alive
 simp only[k1,k3,vp,vo,k0,v0]
 exact ⟨by decide+kernel,by decide+kernel⟩
end Go.Ev
end

section
namespace Go.Ev
open Go
theorem total_leX {l:List (List (El T_api_Ins))} {n:Nat} (h:∀t∈l,List.length t≤n):total l≤n*l.length:=by
 unfold total
 induction l with
 | nil=>simp
 | cons t l ih=>
  rw[List.map_cons,List.sum_cons,List.length_cons,Nat.mul_add,Nat.mul_one]
  have h1:=h t (List.mem_cons_self ..)
  have h2:=ih fun x hx=>h x (List.mem_cons_of_mem _ hx)
  omega
theorem ofC_le {p:El T_api_Prog} :(ofC p).length≤2*total p.2:=by
 have:=accP_len 0 p.2
 unfold ofC
 split
 ·exact this
 ·simp
theorem book_few (l:List (List (El T_book_Act))) {threads many:Int} (h0:0≤threads) (h1:threads≤64) (m0:0≤many) (m1:many≤90):
  smallAll (v_book_Prog l threads many)=true∧(v_book_Prog l threads many).2.length≤threads.toNat∧(ofC (v_book_Prog l threads many)).length≤11648∧checkC (v_book_Prog l threads many)=0∧k_book_Prog l threads many=true:=by
 obtain ⟨hc,hs,hk⟩:=book_valid l h0 h1 m0 m1
 have hl:(v_book_Prog l threads many).2.length≤threads.toNat:=by
  show ((l.take threads.toNat).map fun a=>threadB a (min a.length many.toNat)).length≤_
  rw[List.length_map,List.length_take];omega
 have ht:=total_leX (l:=(v_book_Prog l threads many).2) (n:=91) fun t hm=>by
  obtain ⟨a,_,rfl⟩:=List.mem_map.1 (show t∈(l.take threads.toNat).map fun a=>threadB a (min a.length many.toNat) from hm)
  show (threadB a _).length≤91
  unfold threadB
  rw[withL_len,baseT_len a _ (by omega)]
  omega
 have ho:= @ofC_le (v_book_Prog l threads many)
 refine ⟨?_,hl,by omega,hc,hk⟩
 unfold smallAll
 simp only[Bool.and_eq_true,decide_eq_true_eq]
 exact ⟨hs,by omega,by omega⟩
end Go.Ev
end

section
namespace Go.Ev
open Go
theorem delayTells_true (l:List (List (El T_book_Act))):k_law24_DelayTells l=true∧v_law24_DelayTells l=true:=by
 obtain ⟨ka,va⟩:=alive24
 obtain ⟨h1,h2,h3,h4,hk⟩:=book_few l (threads:=4) (many:=5) (by decide) (by decide) (by decide) (by decide)
 obtain ⟨a1,a2,a3,a4,a5,a6,a7,a8⟩:=delays_all h1 (by omega) (by omega)
 have hS:∀x,v_book_SamePairs x x=true:=fun x=>decide_eq_true rfl
 unfold k_law24_DelayTells v_law24_DelayTells
 simp only[hk,a1,a2,a3,a4,a5,a6,a7,a8,hS,cond_true,ka,va,and_self]
theorem call_law24_DelayTells (a:Args sg_law24_DelayTells) (ha:smallArgs sg_law24_DelayTells a):CallOK Go.Proofs.Tryz.prog fid_law24_DelayTells (toForms sg_law24_DelayTells a) (.d .bool true,tps (toForms sg_law24_DelayTells a)):=by
 obtain ⟨l,_⟩:=a
 obtain ⟨hk,hv⟩:=delayTells_true l
 have:=co_law24_DelayTells l hk
 rw[hv] at this
 exact this
end Go.Ev
end

/- castingsref10.Subst -/
import Derived.Test.YtenheogknlmohaaGreatDoorYS11
namespace Go.Abs
set_option linter.unusedSimpArgs false
set_option linter.unusedVariables false
open Go Go.Proofs
set_option maxRecDepth 100000
set_option maxHeartbeats 1000000
theorem ok_RefSubstO (vars:List Str)(args:List Ty)(ha:∀ u,u∈args→u.Sm)(s:Sig)(h:s.Sm):CallB Tryz.prog 178 [siV s,strsV vars,tysV args] [] (sgO s vars args) (sgB s vars args):=by
 have hl1:=h.formals.1
 have hl2:=h.params.1
 (refine CallB.of_body Tryz.func178 rfl (by decide) (by rw [Tryz.ntmps178];simp) ?_;rw [Tryz.ntmps178])
 (refine AWp.seqR [0,1,2,3,6,7,8,9,10,11,26,50,900,901] [] (by decide +kernel) fun K hK=>?_;simp -implicitDefEqProofs only [EV,Nat.reduceAdd,Nat.reduceEqDiff,Nat.reduceBEq,Nat.reduceLeDiff,reduceCtorEq,TF78,];refine hK _ _ ?_;clear hK K)
 (refine AWp.seqDL [0,1,2,3,6,7,8,9,10,11,26,50,900,901] [] 11 10 7 78 _ mixed (by decide +kernel) (by decide +kernel) ⟨by decide,⟨_,rfl,rfl,rfl,rfl⟩,by decide,(by first | exact TF78.2.2.1 | simp only [TF78])⟩ fun K hK=>?_;simp -implicitDefEqProofs only [EV,Nat.reduceAdd,Nat.reduceEqDiff,Nat.reduceLeDiff,reduceCtorEq,TF3,TF9,TF25,TF78,];refine⟨_,.inl ⟨_,rfl,ok_RSubst vars args ha s.result h.result,rfl⟩,?_⟩;(try simp -implicitDefEqProofs only [EV,Nat.reduceAdd,Nat.reduceEqDiff,Nat.reduceBEq,Nat.reduceLeDiff,reduceCtorEq,TF78,]);refine hK _ _ ?_;clear hK K)
 refine AWp.promoteBox 900 5 7 1 rfl rfl (by decide) ?_
 refine AWp.seqK fun K1 hK1=>?_
 (refine AWp.seqR [0,1,2,3,6,7,8,9,10,11,26,50,900,901] [] (by decide +kernel) fun K hK=>?_;simp -implicitDefEqProofs only [EV,Nat.reduceEqDiff,Nat.reduceBEq,reduceCtorEq,];refine hK _ _ ?_;clear hK K)
 refine AWp.block (AWp.forIdx s.formals (X:=Unit) (fun j _=>[(1,strsV vars),(2,tysV args),(3,.box 3 0),(6,.box 6 0),(7,.box 7 0),(8,intV j)])
  (fun j _=>[(3,.cells (siL s)),(6,.cells si0),(7,.cells (sgC s vars args (.acc 900) (.d .nil))),(900,.rows 5 (foR ((s.formals.take j).map (Formal.subst vars args))))])
  (fun j _=>True) () trivial (by simp [sle,vle,sget]) (by simp [ble,bget,foR]) ?_ ?_)
 ·intro _ _
  rw [List.take_length]
  refine AWp.seqK fun K2 hK2=>?_
  (refine AWp.seqR [0,1,2,3,6,7,8,9,10,11,26,50,900,901] [] (by decide +kernel) fun K hK=>?_;simp -implicitDefEqProofs only [EV,Nat.reduceEqDiff,reduceCtorEq,TF46,TF78,Int.lt_irrefl];refine hK _ _ ?_;clear hK K)
  refine AWp.stopK rfl ?_
  simp only [thenA,blockA,if_true]
  refine hK1 _ _ ?_
  clear hK2 K2 hK1 K1
  refine AWp.promoteBox 901 5 7 2 rfl rfl (by decide) ?_
  refine AWp.seqK fun K1 hK1=>?_
  (refine AWp.seqR [0,1,2,3,6,7,8,9,10,11,26,50,900,901] [] (by decide +kernel) fun K hK=>?_;simp -implicitDefEqProofs only [EV,Nat.reduceEqDiff,Nat.reduceBEq,reduceCtorEq,];refine hK _ _ ?_;clear hK K)
  refine AWp.block (AWp.forIdx s.params (X:=Unit) (fun j _=>[(1,strsV vars),(2,tysV args),(3,.box 3 0),(6,.box 6 0),(7,.box 7 0),(10,intV j)])
   (fun j _=>[(3,.cells (siL s)),(6,.cells si0),(7,.cells (sgC s vars args (.acc 900) (.acc 901))),(900,.rows 5 (foR (s.formals.map (Formal.subst vars args)))),(901,.rows 5 (paR ((s.params.take j).map (Param.subst vars args))))])
   (fun j _=>True) () trivial (by simp [sle,vle,sget]) (by simp [ble,bget,paR]) ?_ ?_)
  ·intro _ _
   rw [List.take_length]
   refine AWp.seqK fun K2 hK2=>?_
   (refine AWp.seqR [0,1,2,3,6,7,8,9,10,11,26,50,900,901] [] (by decide +kernel) fun K hK=>?_;simp -implicitDefEqProofs only [EV,Nat.reduceEqDiff,reduceCtorEq,TF47,TF78,Int.lt_irrefl];refine hK _ _ ?_;clear hK K)
   refine AWp.stopK rfl ?_
   simp only [thenA,blockA,if_true]
   refine hK1 _ _ ?_
   (refine AWp.seqR [0,1,2,3,6,7,8,9,10,11,26,50,900,901] [] (by decide +kernel) fun K hK=>?_;simp -implicitDefEqProofs only [EV,Nat.reduceAdd,Nat.reduceEqDiff,reduceCtorEq,TF78,];refine hK _ _ ?_;clear hK K)
   exact AWp.ret ⟨_,by rw [Tryz.results178];rfl,.inl rfl,by simp [ble,bget]⟩
  ·intro j _ d hd hmem hdrop htake hlt _
   rw [htake,paR_mapT]
   refine AWp.seqK fun K2 hK2=>?_
   (refine AWp.seqR [0,1,2,3,6,7,8,9,10,11,26,50,900,901] [] (by decide +kernel) fun K hK=>?_;simp -implicitDefEqProofs only [EV,Nat.reduceEqDiff,reduceCtorEq,TF47,TF78,hlt];refine hK _ _ ?_;clear hK K)
   refine AWp.goOnK rfl hK2 ?_
   clear hK2 K2
   refine AWp.seqK fun K2 hK2=>?_
   refine AWp.block ?_
   (refine AWp.seqR [0,1,2,3,6,7,8,9,10,11,26,50,900,901] [] (by decide +kernel) fun K hK=>?_;simp -implicitDefEqProofs only [EV,Nat.reduceEqDiff,reduceCtorEq,TF47,TF78,TF91];refine⟨by omega,_,paR_get hd,rfl,?_⟩;(try simp -implicitDefEqProofs only [EV,Nat.reduceAdd,Nat.reduceEqDiff,Nat.reduceBEq,Nat.reduceLeDiff,reduceCtorEq,TF91]);refine hK _ _ ?_;clear hK K)
   (refine AWp.seqR [0,1,2,3,6,7,8,9,10,11,26,50,900,901] [] (by decide +kernel) fun K hK=>?_;simp -implicitDefEqProofs only [EV,Nat.reduceAdd,Nat.reduceEqDiff,Nat.reduceLeDiff,reduceCtorEq,TF25,TF91];refine⟨_,.inl ⟨_,rfl,ok_RSubst vars args ha d.type (h.params.2 d hmem).type,rfl⟩,?_⟩;(try simp -implicitDefEqProofs only [EV,Nat.reduceAdd,Nat.reduceEqDiff,Nat.reduceLeDiff,reduceCtorEq,]);refine hK _ _ ?_;clear hK K)
   (refine AWp.lastR [0,1,2,3,6,7,8,9,10,11,26,50,900,901] [] (by decide +kernel) fun K hK=>?_;simp -implicitDefEqProofs only [EV,Nat.reduceAdd,Nat.reduceEqDiff,Nat.reduceBEq,Nat.reduceLeDiff,Nat.reduceMul,reduceCtorEq,TF47,TF78,TF91];refine⟨by simp,by simp only [List.length_map,List.length_take];unfold lim sm at *;omega,?_⟩;(try simp -implicitDefEqProofs only [EV,forall_const,implies_true,Nat.reduceAdd,Nat.reduceEqDiff,Nat.reduceBEq,Nat.reduceLeDiff,Nat.reduceSub,Nat.reduceMul,Int.reduceEq,Int.reduceLT,Int.reduceLE,Int.reduceSub,Int.reduceAdd,Int.reduceToNat,reduceCtorEq,Int.reduceNeg,TF3,TF4,TF9,TF25,TF46,TF47,TF78,TF84,TF91]);refine hK _ _ ?_;clear hK K;try simp only [thenA,blockA])
   refine hK2 _ _ ?_
   clear hK2 K2
   (refine AWp.lastR [0,1,2,3,6,7,8,9,10,11,26,50,900,901] [] (by decide +kernel) fun K hK=>?_;simp -implicitDefEqProofs only [EV,Nat.reduceEqDiff,reduceCtorEq,];refine⟨by first | (unfold InR;omega) | (simp only [InR,sm] at *;omega),?_⟩;(try simp -implicitDefEqProofs only [EV,forall_const,implies_true,Nat.reduceAdd,Nat.reduceEqDiff,Nat.reduceBEq,Nat.reduceLeDiff,Nat.reduceSub,Nat.reduceMul,Int.reduceEq,Int.reduceLT,Int.reduceLE,Int.reduceSub,Int.reduceAdd,Int.reduceToNat,reduceCtorEq,Int.reduceNeg,TF3,TF4,TF9,TF25,TF46,TF47,TF78,TF84,TF91]);refine hK _ _ ?_;clear hK K;try simp only [thenA,])
   exact⟨(),trivial,(by simp [sle,vle,sget]),by simp [ble,bget,paC,Param.subst]⟩
 ·intro j _ d hd hmem hdrop htake hlt _
  rw [htake,foR_mapT]
  refine AWp.seqK fun K2 hK2=>?_
  (refine AWp.seqR [0,1,2,3,6,7,8,9,10,11,26,50,900,901] [] (by decide +kernel) fun K hK=>?_;simp -implicitDefEqProofs only [EV,Nat.reduceEqDiff,reduceCtorEq,TF46,TF78,hlt];refine hK _ _ ?_;clear hK K)
  refine AWp.goOnK rfl hK2 ?_
  clear hK2 K2
  refine AWp.seqK fun K2 hK2=>?_
  refine AWp.block ?_
  (refine AWp.seqR [0,1,2,3,6,7,8,9,10,11,26,50,900,901] [] (by decide +kernel) fun K hK=>?_;simp -implicitDefEqProofs only [EV,Nat.reduceEqDiff,reduceCtorEq,TF46,TF78,TF84];refine⟨by omega,_,foR_get hd,rfl,?_⟩;(try simp -implicitDefEqProofs only [EV,Nat.reduceAdd,Nat.reduceEqDiff,Nat.reduceBEq,Nat.reduceLeDiff,reduceCtorEq,TF84]);refine hK _ _ ?_;clear hK K)
  (refine AWp.seqR [0,1,2,3,6,7,8,9,10,11,26,50,900,901] [] (by decide +kernel) fun K hK=>?_;simp -implicitDefEqProofs only [EV,Nat.reduceAdd,Nat.reduceEqDiff,Nat.reduceLeDiff,reduceCtorEq,TF25,TF84];refine⟨_,.inl ⟨_,rfl,ok_RSubst vars args ha d.bound (h.formals.2 d hmem).bound,rfl⟩,?_⟩;(try simp -implicitDefEqProofs only [EV,Nat.reduceAdd,Nat.reduceEqDiff,Nat.reduceLeDiff,reduceCtorEq,]);refine hK _ _ ?_;clear hK K)
  (refine AWp.lastR [0,1,2,3,6,7,8,9,10,11,26,50,900,901] [] (by decide +kernel) fun K hK=>?_;simp -implicitDefEqProofs only [EV,Nat.reduceAdd,Nat.reduceEqDiff,Nat.reduceBEq,Nat.reduceLeDiff,Nat.reduceMul,reduceCtorEq,TF46,TF78,TF84];refine⟨by simp,by simp only [List.length_map,List.length_take];unfold lim sm at *;omega,?_⟩;(try simp -implicitDefEqProofs only [EV,forall_const,implies_true,Nat.reduceAdd,Nat.reduceEqDiff,Nat.reduceBEq,Nat.reduceLeDiff,Nat.reduceSub,Nat.reduceMul,Int.reduceEq,Int.reduceLT,Int.reduceLE,Int.reduceSub,Int.reduceAdd,Int.reduceToNat,reduceCtorEq,Int.reduceNeg,TF3,TF4,TF9,TF25,TF46,TF47,TF78,TF84,TF91]);refine hK _ _ ?_;clear hK K;try simp only [thenA,blockA])
  refine hK2 _ _ ?_
  clear hK2 K2
  (refine AWp.lastR [0,1,2,3,6,7,8,9,10,11,26,50,900,901] [] (by decide +kernel) fun K hK=>?_;simp -implicitDefEqProofs only [EV,Nat.reduceEqDiff,reduceCtorEq,];refine⟨by first | (unfold InR;omega) | (simp only [InR,sm] at *;omega),?_⟩;(try simp -implicitDefEqProofs only [EV,forall_const,implies_true,Nat.reduceAdd,Nat.reduceEqDiff,Nat.reduceBEq,Nat.reduceLeDiff,Nat.reduceSub,Nat.reduceMul,Int.reduceEq,Int.reduceLT,Int.reduceLE,Int.reduceSub,Int.reduceAdd,Int.reduceToNat,reduceCtorEq,Int.reduceNeg,TF3,TF4,TF9,TF25,TF46,TF47,TF78,TF84,TF91]);refine hK _ _ ?_;clear hK K;try simp only [thenA,])
  exact⟨(),trivial,(by simp [sle,vle,sget]),by simp [ble,bget,foC,Formal.subst]⟩
theorem ok_RefSubst (vars:List Str)(args:List Ty)(ha:∀ u,u∈args→u.Sm)(s:Sig)(h:s.Sm):CallOK Tryz.prog 178 [siV s,strsV vars,tysV args] (siV (s.subst vars args)) :=
 (ok_RefSubstO vars args ha s h).pubAll rfl rfl
end Go.Abs

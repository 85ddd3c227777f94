/- several texts in one -/
import Derived.Test.YtenheogknlmohaaGreatDoorYFC
namespace Go.Abs
set_option linter.unusedSimpArgs false
set_option linter.unusedVariables false
open Go Go.Proofs
set_option maxRecDepth 100000
set_option maxHeartbeats 1000000
def idxF {α:Type} (p:α→Bool)(l:List α):Int:=match l.findIdx? p with
 | some i=>i
 | none=>-1
theorem idxF_none {α:Type} {p:α→Bool} {l:List α} (h:∀ x,x∈l→p x=false):idxF p l = -1:=by
 unfold idxF
 rw [List.findIdx?_eq_none_iff.2 h]
theorem idxF_some {α:Type} {p:α→Bool} {l:List α} {j:Nat} {x:α} (hx:l[j]? = some x)(hp:p x=true)(h:∀ y,y∈l.take j→p y=false):idxF p l=j:=by
 unfold idxF
 have:l.findIdx? p=some j:=by
  rw [List.findIdx?_eq_some_iff_getElem]
  obtain⟨hlt,he⟩:=List.getElem?_eq_some_iff.1 hx
  refine⟨hlt,by rw [he];exact hp,?_⟩
  intro i hi
  have:=h l[i] (List.mem_take_iff_getElem.2 ⟨i,by omega,by simp⟩)
  simpa using this
 rw [this]
theorem ok_IndexFuncF (f:FuncId)(caps:List SV)(hco:∀ x:Formal,coerceL [] (foV x::caps)=some (foV x::caps))(p:Formal→Bool)(l:List Formal)(hl:l.length≤sm)(hs:∀ t,t∈l→CallOK Tryz.prog f (foV t::caps) (.d (.bool (p t)))) :
  CallOK Tryz.prog 131 [.d (.slice (foR l)),.clo f caps] (intV (idxF p l)):=by
 (refine CallOK.of_body Tryz.func131 rfl (by decide) (by rw [Tryz.ntmps131];simp) ?_;rw [Tryz.ntmps131])
 (refine AWp.seqR [0,1,4,5,7,8,9,16] [] (by decide +kernel) fun K hK=>?_;simp -implicitDefEqProofs only [EV,Nat.reduceAdd,Nat.reduceEqDiff,reduceCtorEq,];refine hK _ _ ?_;clear hK K)
 refine AWp.seqK fun K1 hK1=>?_
 (refine AWp.seqR [0,1,4,5,7,8,9,16] [] (by decide +kernel) fun K hK=>?_;simp -implicitDefEqProofs only [EV,Nat.reduceEqDiff,reduceCtorEq,TF46];refine hK _ _ ?_;clear hK K)
 refine AWp.block (AWp.forIdx l (X:=Unit) (fun j _=>[(0,.d (.slice (foR l))),(1,.clo f caps),(7,intV l.length),(8,intV j)]) (fun _ _=>[])
  (fun j _=>∀ y,y∈l.take j→p y=false) () (by simp) (by simp [sle,vle,sget]) (by simp [ble,]) ?_ ?_)
 ·intro _ hI
  rw [List.take_length] at hI
  (refine AWp.seqR [0,1,4,5,7,8,9,16] [] (by decide +kernel) fun K hK=>?_;simp -implicitDefEqProofs only [EV,Nat.reduceEqDiff,reduceCtorEq,Int.lt_irrefl];refine hK _ _ ?_;clear hK K)
  refine AWp.stop rfl ?_
  simp only [thenA,blockA,if_true]
  refine hK1 _ _ ?_
  (refine AWp.seqR [0,1,4,5,7,8,9,16] [] (by decide +kernel) fun K hK=>?_;simp -implicitDefEqProofs only [EV,Nat.reduceEqDiff,reduceCtorEq,Int.reduceNeg,];refine hK _ _ ?_;clear hK K)
  rw [idxF_none hI]
  exact AWp.ret ⟨_,by rw [Tryz.results131];rfl,rfl⟩
 ·intro j _ d hd hmem hdrop htake hlt hI
  (refine AWp.seqR [0,1,4,5,7,8,9,16] [] (by decide +kernel) fun K hK=>?_;simp -implicitDefEqProofs only [EV,Nat.reduceEqDiff,reduceCtorEq,hlt];refine hK _ _ ?_;clear hK K)
  refine AWp.goOn rfl ?_
  refine AWp.seqK fun K2 hK2=>?_
  refine AWp.block ?_
  (refine AWp.seqR [0,1,4,5,7,8,9,16] [] (by decide +kernel) fun K hK=>?_;simp -implicitDefEqProofs only [EV,Nat.reduceEqDiff,reduceCtorEq,];refine hK _ _ ?_;clear hK K)
  (refine AWp.seqR [0,1,4,5,7,8,9,16] [] (by decide +kernel) fun K hK=>?_;simp -implicitDefEqProofs only [EV,Nat.reduceEqDiff,reduceCtorEq,TF46,TF84];refine⟨by omega,_,foR_get hd,rfl,?_⟩;(try simp -implicitDefEqProofs only [EV,Nat.reduceAdd,Nat.reduceEqDiff,reduceCtorEq,]);refine⟨_,.inl ⟨_,hco d,hs d hmem,rfl⟩,?_⟩;(try simp -implicitDefEqProofs only [EV,forall_const,implies_true,Nat.reduceAdd,Nat.reduceEqDiff,Nat.reduceBEq,Nat.reduceLeDiff,Nat.reduceSub,Nat.reduceMul,Int.reduceEq,Int.reduceLT,Int.reduceLE,Int.reduceSub,Int.reduceAdd,Int.reduceToNat,reduceCtorEq,Int.reduceNeg,TF3,TF4,TF9,TF46,TF84]);refine hK _ _ ?_;clear hK K)
  refine AWp.cond rfl (fun hc=>?_) (fun hc=>?_)
  ·(refine AWp.seqR [0,1,4,5,7,8,9,16] [] (by decide +kernel) fun K hK=>?_;simp -implicitDefEqProofs only [EV,Nat.reduceEqDiff,reduceCtorEq,];refine hK _ _ ?_;clear hK K)
   rw [idxF_some hd hc hI]
   exact AWp.ret ⟨_,by rw [Tryz.results131];rfl,rfl⟩
  ·refine AWp.skip (hK2 _ _ ?_)
   clear hK2 K2
   (refine AWp.lastR [0,1,4,5,7,8,9,16] [] (by decide +kernel) fun K hK=>?_;simp -implicitDefEqProofs only [EV,Nat.reduceEqDiff,reduceCtorEq,];refine⟨by first | (unfold InR;omega) | (simp only [InR,sm] at *;omega),?_⟩;(try simp -implicitDefEqProofs only [EV,forall_const,implies_true,Nat.reduceAdd,Nat.reduceEqDiff,Nat.reduceBEq,Nat.reduceLeDiff,Nat.reduceSub,Nat.reduceMul,Int.reduceEq,Int.reduceLT,Int.reduceLE,Int.reduceSub,Int.reduceAdd,Int.reduceToNat,reduceCtorEq,Int.reduceNeg,TF3,TF4,TF9,TF46,TF84]);refine hK _ _ ?_;clear hK K;try simp only [thenA,])
   refine⟨(),?_,(by simp [sle,vle,sget]),(by simp [ble,])⟩
   rw [htake]
   intro y hy
   rcases List.mem_append.1 hy with hy | hy
   ·exact hI y hy
   ·simp only [List.mem_cons,List.not_mem_nil,or_false] at hy
    rw [hy];exact hc
theorem ok_IndexFuncP (f:FuncId)(caps:List SV)(hco:∀ x:Param,coerceL [] (paV x::caps)=some (paV x::caps))(p:Param→Bool)(l:List Param)(hl:l.length≤sm)(hs:∀ t,t∈l→CallOK Tryz.prog f (paV t::caps) (.d (.bool (p t)))) :
  CallOK Tryz.prog 149 [.d (.slice (paR l)),.clo f caps] (intV (idxF p l)):=by
 (refine CallOK.of_body Tryz.func149 rfl (by decide) (by rw [Tryz.ntmps149];simp) ?_;rw [Tryz.ntmps149])
 (refine AWp.seqR [0,1,4,5,7,8,9,16] [] (by decide +kernel) fun K hK=>?_;simp -implicitDefEqProofs only [EV,Nat.reduceAdd,Nat.reduceEqDiff,reduceCtorEq,];refine hK _ _ ?_;clear hK K)
 refine AWp.seqK fun K1 hK1=>?_
 (refine AWp.seqR [0,1,4,5,7,8,9,16] [] (by decide +kernel) fun K hK=>?_;simp -implicitDefEqProofs only [EV,Nat.reduceEqDiff,reduceCtorEq,TF47];refine hK _ _ ?_;clear hK K)
 refine AWp.block (AWp.forIdx l (X:=Unit) (fun j _=>[(0,.d (.slice (paR l))),(1,.clo f caps),(7,intV l.length),(8,intV j)]) (fun _ _=>[])
  (fun j _=>∀ y,y∈l.take j→p y=false) () (by simp) (by simp [sle,vle,sget]) (by simp [ble,]) ?_ ?_)
 ·intro _ hI
  rw [List.take_length] at hI
  (refine AWp.seqR [0,1,4,5,7,8,9,16] [] (by decide +kernel) fun K hK=>?_;simp -implicitDefEqProofs only [EV,Nat.reduceEqDiff,reduceCtorEq,Int.lt_irrefl];refine hK _ _ ?_;clear hK K)
  refine AWp.stop rfl ?_
  simp only [thenA,blockA,if_true]
  refine hK1 _ _ ?_
  (refine AWp.seqR [0,1,4,5,7,8,9,16] [] (by decide +kernel) fun K hK=>?_;simp -implicitDefEqProofs only [EV,Nat.reduceEqDiff,reduceCtorEq,Int.reduceNeg,];refine hK _ _ ?_;clear hK K)
  rw [idxF_none hI]
  exact AWp.ret ⟨_,by rw [Tryz.results149];rfl,rfl⟩
 ·intro j _ d hd hmem hdrop htake hlt hI
  (refine AWp.seqR [0,1,4,5,7,8,9,16] [] (by decide +kernel) fun K hK=>?_;simp -implicitDefEqProofs only [EV,Nat.reduceEqDiff,reduceCtorEq,hlt];refine hK _ _ ?_;clear hK K)
  refine AWp.goOn rfl ?_
  refine AWp.seqK fun K2 hK2=>?_
  refine AWp.block ?_
  (refine AWp.seqR [0,1,4,5,7,8,9,16] [] (by decide +kernel) fun K hK=>?_;simp -implicitDefEqProofs only [EV,Nat.reduceEqDiff,reduceCtorEq,];refine hK _ _ ?_;clear hK K)
  (refine AWp.seqR [0,1,4,5,7,8,9,16] [] (by decide +kernel) fun K hK=>?_;simp -implicitDefEqProofs only [EV,Nat.reduceEqDiff,reduceCtorEq,TF47,TF91];refine⟨by omega,_,paR_get hd,rfl,?_⟩;(try simp -implicitDefEqProofs only [EV,Nat.reduceAdd,Nat.reduceEqDiff,reduceCtorEq,]);refine⟨_,.inl ⟨_,hco d,hs d hmem,rfl⟩,?_⟩;(try simp -implicitDefEqProofs only [EV,forall_const,implies_true,Nat.reduceAdd,Nat.reduceEqDiff,Nat.reduceBEq,Nat.reduceLeDiff,Nat.reduceSub,Nat.reduceMul,Int.reduceEq,Int.reduceLT,Int.reduceLE,Int.reduceSub,Int.reduceAdd,Int.reduceToNat,reduceCtorEq,Int.reduceNeg,TF3,TF4,TF9,TF47,TF91]);refine hK _ _ ?_;clear hK K)
  refine AWp.cond rfl (fun hc=>?_) (fun hc=>?_)
  ·(refine AWp.seqR [0,1,4,5,7,8,9,16] [] (by decide +kernel) fun K hK=>?_;simp -implicitDefEqProofs only [EV,Nat.reduceEqDiff,reduceCtorEq,];refine hK _ _ ?_;clear hK K)
   rw [idxF_some hd hc hI]
   exact AWp.ret ⟨_,by rw [Tryz.results149];rfl,rfl⟩
  ·refine AWp.skip (hK2 _ _ ?_)
   clear hK2 K2
   (refine AWp.lastR [0,1,4,5,7,8,9,16] [] (by decide +kernel) fun K hK=>?_;simp -implicitDefEqProofs only [EV,Nat.reduceEqDiff,reduceCtorEq,];refine⟨by first | (unfold InR;omega) | (simp only [InR,sm] at *;omega),?_⟩;(try simp -implicitDefEqProofs only [EV,forall_const,implies_true,Nat.reduceAdd,Nat.reduceEqDiff,Nat.reduceBEq,Nat.reduceLeDiff,Nat.reduceSub,Nat.reduceMul,Int.reduceEq,Int.reduceLT,Int.reduceLE,Int.reduceSub,Int.reduceAdd,Int.reduceToNat,reduceCtorEq,Int.reduceNeg,TF3,TF4,TF9,TF47,TF91]);refine hK _ _ ?_;clear hK K;try simp only [thenA,])
   refine⟨(),?_,(by simp [sle,vle,sget]),(by simp [ble,])⟩
   rw [htake]
   intro y hy
   rcases List.mem_append.1 hy with hy | hy
   ·exact hI y hy
   ·simp only [List.mem_cons,List.not_mem_nil,or_false] at hy
    rw [hy];exact hc
theorem ok_IndexFuncS (f:FuncId)(caps:List SV)(hco:∀ x:Sig,coerceL [] (siV x::caps)=some (siV x::caps))(p:Sig→Bool)(l:List Sig)(hl:l.length≤sm)(hs:∀ t,t∈l→CallOK Tryz.prog f (siV t::caps) (.d (.bool (p t)))) :
  CallOK Tryz.prog 198 [.d (.slice (siR l)),.clo f caps] (intV (idxF p l)):=by
 (refine CallOK.of_body Tryz.func198 rfl (by decide) (by rw [Tryz.ntmps198];simp) ?_;rw [Tryz.ntmps198])
 (refine AWp.seqR [0,1,4,5,7,8,9,16] [] (by decide +kernel) fun K hK=>?_;simp -implicitDefEqProofs only [EV,Nat.reduceAdd,Nat.reduceEqDiff,reduceCtorEq,];refine hK _ _ ?_;clear hK K)
 refine AWp.seqK fun K1 hK1=>?_
 (refine AWp.seqR [0,1,4,5,7,8,9,16] [] (by decide +kernel) fun K hK=>?_;simp -implicitDefEqProofs only [EV,Nat.reduceEqDiff,reduceCtorEq,TF75];refine hK _ _ ?_;clear hK K)
 refine AWp.block (AWp.forIdx l (X:=Unit) (fun j _=>[(0,.d (.slice (siR l))),(1,.clo f caps),(7,intV l.length),(8,intV j)]) (fun _ _=>[])
  (fun j _=>∀ y,y∈l.take j→p y=false) () (by simp) (by simp [sle,vle,sget]) (by simp [ble,]) ?_ ?_)
 ·intro _ hI
  rw [List.take_length] at hI
  (refine AWp.seqR [0,1,4,5,7,8,9,16] [] (by decide +kernel) fun K hK=>?_;simp -implicitDefEqProofs only [EV,Nat.reduceEqDiff,reduceCtorEq,Int.lt_irrefl];refine hK _ _ ?_;clear hK K)
  refine AWp.stop rfl ?_
  simp only [thenA,blockA,if_true]
  refine hK1 _ _ ?_
  (refine AWp.seqR [0,1,4,5,7,8,9,16] [] (by decide +kernel) fun K hK=>?_;simp -implicitDefEqProofs only [EV,Nat.reduceEqDiff,reduceCtorEq,Int.reduceNeg,];refine hK _ _ ?_;clear hK K)
  rw [idxF_none hI]
  exact AWp.ret ⟨_,by rw [Tryz.results198];rfl,rfl⟩
 ·intro j _ d hd hmem hdrop htake hlt hI
  (refine AWp.seqR [0,1,4,5,7,8,9,16] [] (by decide +kernel) fun K hK=>?_;simp -implicitDefEqProofs only [EV,Nat.reduceEqDiff,reduceCtorEq,hlt];refine hK _ _ ?_;clear hK K)
  refine AWp.goOn rfl ?_
  refine AWp.seqK fun K2 hK2=>?_
  refine AWp.block ?_
  (refine AWp.seqR [0,1,4,5,7,8,9,16] [] (by decide +kernel) fun K hK=>?_;simp -implicitDefEqProofs only [EV,Nat.reduceEqDiff,reduceCtorEq,];refine hK _ _ ?_;clear hK K)
  (refine AWp.seqR [0,1,4,5,7,8,9,16] [] (by decide +kernel) fun K hK=>?_;simp -implicitDefEqProofs only [EV,Nat.reduceEqDiff,reduceCtorEq,TF75,TF78];refine⟨by omega,_,siR_get hd,rfl,?_⟩;(try simp -implicitDefEqProofs only [EV,Nat.reduceAdd,Nat.reduceEqDiff,reduceCtorEq,]);refine⟨_,.inl ⟨_,hco d,hs d hmem,rfl⟩,?_⟩;(try simp -implicitDefEqProofs only [EV,forall_const,implies_true,Nat.reduceAdd,Nat.reduceEqDiff,Nat.reduceBEq,Nat.reduceLeDiff,Nat.reduceSub,Nat.reduceMul,Int.reduceEq,Int.reduceLT,Int.reduceLE,Int.reduceSub,Int.reduceAdd,Int.reduceToNat,reduceCtorEq,Int.reduceNeg,TF3,TF4,TF9,TF75,TF78]);refine hK _ _ ?_;clear hK K)
  refine AWp.cond rfl (fun hc=>?_) (fun hc=>?_)
  ·(refine AWp.seqR [0,1,4,5,7,8,9,16] [] (by decide +kernel) fun K hK=>?_;simp -implicitDefEqProofs only [EV,Nat.reduceEqDiff,reduceCtorEq,];refine hK _ _ ?_;clear hK K)
   rw [idxF_some hd hc hI]
   exact AWp.ret ⟨_,by rw [Tryz.results198];rfl,rfl⟩
  ·refine AWp.skip (hK2 _ _ ?_)
   clear hK2 K2
   (refine AWp.lastR [0,1,4,5,7,8,9,16] [] (by decide +kernel) fun K hK=>?_;simp -implicitDefEqProofs only [EV,Nat.reduceEqDiff,reduceCtorEq,];refine⟨by first | (unfold InR;omega) | (simp only [InR,sm] at *;omega),?_⟩;(try simp -implicitDefEqProofs only [EV,forall_const,implies_true,Nat.reduceAdd,Nat.reduceEqDiff,Nat.reduceBEq,Nat.reduceLeDiff,Nat.reduceSub,Nat.reduceMul,Int.reduceEq,Int.reduceLT,Int.reduceLE,Int.reduceSub,Int.reduceAdd,Int.reduceToNat,reduceCtorEq,Int.reduceNeg,TF3,TF4,TF9,TF75,TF78]);refine hK _ _ ?_;clear hK K;try simp only [thenA,])
   refine⟨(),?_,(by simp [sle,vle,sget]),(by simp [ble,])⟩
   rw [htake]
   intro y hy
   rcases List.mem_append.1 hy with hy | hy
   ·exact hI y hy
   ·simp only [List.mem_cons,List.not_mem_nil,or_false] at hy
    rw [hy];exact hc
theorem ok_Names (l:List Formal)(hl:l.length≤sm):CallOK Tryz.prog 87 [.d (.slice (foR l))] (.d (.slice (strR (l.map (·.name))))):=by
 (refine CallOK.of_body Tryz.func87 rfl (by decide) (by rw [Tryz.ntmps87];simp) ?_;rw [Tryz.ntmps87])
 (refine AWp.seqR [0,2,3,5,6,7,8,9] [] (by decide +kernel) fun K hK=>?_;simp -implicitDefEqProofs only [EV,Nat.reduceEqDiff,reduceCtorEq,];refine hK _ _ ?_;clear hK K)
 (refine AWp.seqR [0,2,3,5,6,7,8,9] [] (by decide +kernel) fun K hK=>?_;simp -implicitDefEqProofs only [EV,Nat.reduceEqDiff,reduceCtorEq,];refine hK _ _ ?_;clear hK K)
 refine AWp.promote 3 1 3 rfl ?_
 refine AWp.seqK fun K1 hK1=>?_
 (refine AWp.seqR [0,2,3,5,6,7,8,9] [] (by decide +kernel) fun K hK=>?_;simp -implicitDefEqProofs only [EV,Nat.reduceEqDiff,reduceCtorEq,TF46,];refine hK _ _ ?_;clear hK K)
 refine AWp.block (AWp.forIdx l (X:=Unit) (fun j _=>[(3,.acc 3),(6,.d (.slice (foR l))),(7,intV l.length),(8,intV j)]) (fun j _=>[(3,.rows 1 (strR ((l.take j).map (·.name))))])
  (fun j _=>True) () trivial (by simp [sle,vle,sget]) (by simp [ble,bget,strR]) ?_ ?_)
 ·intro _ hI
  rw [List.take_length]
  (refine AWp.seqR [0,2,3,5,6,7,8,9] [] (by decide +kernel) fun K hK=>?_;simp -implicitDefEqProofs only [EV,Nat.reduceEqDiff,reduceCtorEq,Int.lt_irrefl];refine hK _ _ ?_;clear hK K)
  refine AWp.stop rfl ?_
  simp only [thenA,blockA,if_true]
  refine hK1 _ _ ?_
  (refine AWp.seqR [0,2,3,5,6,7,8,9] [] (by decide +kernel) fun K hK=>?_;simp -implicitDefEqProofs only [EV,Nat.reduceEqDiff,reduceCtorEq,];refine hK _ _ ?_;clear hK K)
  exact AWp.ret ⟨_,by rw [Tryz.results87];rfl,rfl⟩
 ·intro j _ d hd hmem hdrop htake hlt hI
  rw [htake]
  (refine AWp.seqR [0,2,3,5,6,7,8,9] [] (by decide +kernel) fun K hK=>?_;simp -implicitDefEqProofs only [EV,Nat.reduceEqDiff,reduceCtorEq,hlt];refine hK _ _ ?_;clear hK K)
  refine AWp.goOn rfl ?_
  refine AWp.seqK fun K2 hK2=>?_
  refine AWp.block ?_
  (refine AWp.seqR [0,2,3,5,6,7,8,9] [] (by decide +kernel) fun K hK=>?_;simp -implicitDefEqProofs only [EV,Nat.reduceEqDiff,reduceCtorEq,TF46,TF84];refine⟨by omega,_,foR_get hd,rfl,?_⟩;(try simp -implicitDefEqProofs only [EV,Nat.reduceAdd,Nat.reduceEqDiff,Nat.reduceBEq,Nat.reduceLeDiff,reduceCtorEq,TF84]);refine hK _ _ ?_;clear hK K)
  (refine AWp.lastR [0,2,3,5,6,7,8,9] [] (by decide +kernel) fun K hK=>?_;simp -implicitDefEqProofs only [EV,Nat.reduceEqDiff,Nat.reduceBEq,Nat.reduceLeDiff,Nat.reduceMul,reduceCtorEq,TF9,TF76,TF84];refine⟨by simp,by simp only [List.length_map,List.length_take];unfold lim sm at *;omega,?_⟩;(try simp -implicitDefEqProofs only [EV,forall_const,implies_true,Nat.reduceAdd,Nat.reduceEqDiff,Nat.reduceBEq,Nat.reduceLeDiff,Nat.reduceSub,Nat.reduceMul,Int.reduceEq,Int.reduceLT,Int.reduceLE,Int.reduceSub,Int.reduceAdd,Int.reduceToNat,reduceCtorEq,Int.reduceNeg,TF3,TF4,TF9,TF46,TF76,TF84]);refine hK _ _ ?_;clear hK K;try simp only [thenA,blockA])
  refine hK2 _ _ ?_
  clear hK2 K2
  (refine AWp.lastR [0,2,3,5,6,7,8,9] [] (by decide +kernel) fun K hK=>?_;simp -implicitDefEqProofs only [EV,Nat.reduceEqDiff,reduceCtorEq,];refine⟨by first | (unfold InR;omega) | (simp only [InR,sm] at *;omega),?_⟩;(try simp -implicitDefEqProofs only [EV,forall_const,implies_true,Nat.reduceAdd,Nat.reduceEqDiff,Nat.reduceBEq,Nat.reduceLeDiff,Nat.reduceSub,Nat.reduceMul,Int.reduceEq,Int.reduceLT,Int.reduceLE,Int.reduceSub,Int.reduceAdd,Int.reduceToNat,reduceCtorEq,Int.reduceNeg,TF3,TF4,TF9,TF46,TF76,TF84]);refine hK _ _ ?_;clear hK K;try simp only [thenA,])
  exact⟨(),trivial,(by simp [sle,vle,sget]),by simp [ble,bget,strR]⟩
theorem ok_RefNames (l:List Formal)(hl:l.length≤sm):CallOK Tryz.prog 89 [.d (.slice (foR l))] (.d (.slice (strR (l.map (·.name))))):=by
 (refine CallOK.of_body Tryz.func89 rfl (by decide) (by rw [Tryz.ntmps89];simp) ?_;rw [Tryz.ntmps89])
 (refine AWp.seqR [0,2,3,4,8] [] (by decide +kernel) fun K hK=>?_;simp -implicitDefEqProofs only [EV,Nat.reduceEqDiff,reduceCtorEq,];refine hK _ _ ?_;clear hK K)
 (refine AWp.seqR [0,2,3,4,8] [] (by decide +kernel) fun K hK=>?_;simp -implicitDefEqProofs only [EV,Nat.reduceEqDiff,reduceCtorEq,];refine hK _ _ ?_;clear hK K)
 refine AWp.promote 3 1 3 rfl ?_
 refine AWp.seqK fun K1 hK1=>?_
 (refine AWp.seqR [0,2,3,4,8] [] (by decide +kernel) fun K hK=>?_;simp -implicitDefEqProofs only [EV,Nat.reduceEqDiff,reduceCtorEq,];refine hK _ _ ?_;clear hK K)
 refine AWp.block (AWp.forIdx l (X:=Unit) (fun j _=>[(0,.d (.slice (foR l))),(3,.acc 3),(4,intV j)]) (fun j _=>[(3,.rows 1 (strR ((l.take j).map (·.name))))])
  (fun j _=>True) () trivial (by simp [sle,vle,sget]) (by simp [ble,bget,strR]) ?_ ?_)
 ·intro _ hI
  rw [List.take_length]
  refine AWp.seqK fun K2 hK2=>?_
  (refine AWp.seqR [0,2,3,4,8] [] (by decide +kernel) fun K hK=>?_;simp -implicitDefEqProofs only [EV,Nat.reduceEqDiff,reduceCtorEq,TF46,Int.lt_irrefl];refine hK _ _ ?_;clear hK K)
  refine AWp.stopK rfl ?_
  simp only [thenA,blockA,if_true]
  refine hK1 _ _ ?_
  (refine AWp.seqR [0,2,3,4,8] [] (by decide +kernel) fun K hK=>?_;simp -implicitDefEqProofs only [EV,Nat.reduceEqDiff,reduceCtorEq,];refine hK _ _ ?_;clear hK K)
  exact AWp.ret ⟨_,by rw [Tryz.results89];rfl,rfl⟩
 ·intro j _ d hd hmem hdrop htake hlt hI
  rw [htake]
  refine AWp.seqK fun K2 hK2=>?_
  (refine AWp.seqR [0,2,3,4,8] [] (by decide +kernel) fun K hK=>?_;simp -implicitDefEqProofs only [EV,Nat.reduceEqDiff,reduceCtorEq,TF46,hlt];refine hK _ _ ?_;clear hK K)
  refine AWp.goOnK rfl hK2 ?_
  clear hK2 K2
  refine AWp.seqK fun K2 hK2=>?_
  refine AWp.block ?_
  (refine AWp.lastR [0,2,3,4,8] [] (by decide +kernel) fun K hK=>?_;simp -implicitDefEqProofs only [EV,Nat.reduceEqDiff,reduceCtorEq,TF9,TF46,TF84];refine⟨by omega,_,foR_get hd,rfl,?_⟩;(try simp -implicitDefEqProofs only [EV,Nat.reduceEqDiff,Nat.reduceBEq,Nat.reduceLeDiff,Nat.reduceMul,reduceCtorEq,TF9,TF76]);refine⟨by simp,by simp only [List.length_map,List.length_take];unfold lim sm at *;omega,?_⟩;(try simp -implicitDefEqProofs only [EV,forall_const,implies_true,Nat.reduceAdd,Nat.reduceEqDiff,Nat.reduceBEq,Nat.reduceLeDiff,Nat.reduceSub,Nat.reduceMul,Int.reduceEq,Int.reduceLT,Int.reduceLE,Int.reduceSub,Int.reduceAdd,Int.reduceToNat,reduceCtorEq,Int.reduceNeg,TF3,TF4,TF9,TF46,TF76,TF84]);refine hK _ _ ?_;clear hK K;try simp only [thenA,blockA])
  refine hK2 _ _ ?_
  clear hK2 K2
  (refine AWp.lastR [0,2,3,4,8] [] (by decide +kernel) fun K hK=>?_;simp -implicitDefEqProofs only [EV,Nat.reduceEqDiff,reduceCtorEq,];refine⟨by first | (unfold InR;omega) | (simp only [InR,sm] at *;omega),?_⟩;(try simp -implicitDefEqProofs only [EV,forall_const,implies_true,Nat.reduceAdd,Nat.reduceEqDiff,Nat.reduceBEq,Nat.reduceLeDiff,Nat.reduceSub,Nat.reduceMul,Int.reduceEq,Int.reduceLT,Int.reduceLE,Int.reduceSub,Int.reduceAdd,Int.reduceToNat,reduceCtorEq,Int.reduceNeg,TF3,TF4,TF9,TF46,TF76,TF84]);refine hK _ _ ?_;clear hK K;try simp only [thenA,])
  exact⟨(),trivial,(by simp [sle,vle,sget]),by simp [ble,bget,strR]⟩
end Go.Abs
namespace Go.Abs
set_option linter.unusedSimpArgs false
set_option linter.unusedVariables false
open Go Go.Proofs
set_option maxRecDepth 100000
set_option maxHeartbeats 1000000
theorem bl_cmpS:∀ a b:Str,(Op.bytesLess a b=true↔cmpS a b = -1)∧(Op.bytesLess b a=true↔cmpS a b=1)∧(cmpS a b = -1∨cmpS a b=0∨cmpS a b=1)
 | [],[]=>by simp [Op.bytesLess,cmpS]
 | [],_::_=>by simp [Op.bytesLess,cmpS]
 | _::_,[]=>by simp [Op.bytesLess,cmpS]
 | x::xs,y::ys=>by
  obtain⟨h1,h2,h3⟩:=bl_cmpS xs ys
  simp only [Op.bytesLess,cmpS,Bool.or_eq_true,Bool.and_eq_true,decide_eq_true_eq,beq_iff_eq]
  by_cases hxy:x < y
  ·have hne:¬ y < x:=fun h=>UInt8.lt_irrefl x (UInt8.lt_trans hxy h)
   have hne2:¬ y=x:=fun h=>by subst h;exact UInt8.lt_irrefl _ hxy
   simp [hxy,hne,hne2]
  ·by_cases hyx:y < x
   ·have hne2:¬ x=y:=fun h=>by subst h;exact UInt8.lt_irrefl _ hyx
    simp [hxy,hyx,hne2]
   ·have he:x=y:=by
     rcases Nat.lt_trichotomy x.toNat y.toNat with h | h | h
     ·exact absurd (UInt8.lt_iff_toNat_lt.2 h) hxy
     ·exact UInt8.toNat_inj.1 h
     ·exact absurd (UInt8.lt_iff_toNat_lt.2 h) hyx
    subst he
    simp [UInt8.lt_irrefl,h1,h2,h3]
theorem cmpS_refl:∀ a:Str,cmpS a a=0
 | []=>rfl
 | x::xs=>by rw [cmpS,if_neg (UInt8.lt_irrefl x),if_neg (UInt8.lt_irrefl x)];exact cmpS_refl xs
theorem cmpS_zero:∀ {a b:Str},cmpS a b=0↔a=b
 | [],[]=>by simp [cmpS]
 | [],_::_=>by simp [cmpS]
 | _::_,[]=>by simp [cmpS]
 | x::xs,y::ys=>by
  rw [cmpS]
  by_cases hxy:x < y
  ·have hne2:¬ x=y:=fun h=>by subst h;exact UInt8.lt_irrefl _ hxy
   simp [hxy,hne2]
  ·by_cases hyx:y < x
   ·have hne2:¬ x=y:=fun h=>by subst h;exact UInt8.lt_irrefl _ hyx
    simp [hxy,hyx,hne2]
   ·have he:x=y:=by
     rcases Nat.lt_trichotomy x.toNat y.toNat with h | h | h
     ·exact absurd (UInt8.lt_iff_toNat_lt.2 h) hxy
     ·exact UInt8.toNat_inj.1 h
     ·exact absurd (UInt8.lt_iff_toNat_lt.2 h) hyx
    subst he
    simp [UInt8.lt_irrefl,cmpS_zero]
theorem ok_isNaN (a:Str):CallOK Tryz.prog 211 [strV a] (boolV false):=by
 (refine CallOK.of_body Tryz.func211 rfl (by decide) (by rw [Tryz.ntmps211];simp) ?_;rw [Tryz.ntmps211])
 (refine AWp.seqR [0,2] [] (by decide +kernel) fun K hK=>?_;simp -implicitDefEqProofs only [EV,reduceCtorEq,];refine hK _ _ ?_;clear hK K)
 (refine AWp.seqR [0,2] [] (by decide +kernel) fun K hK=>?_;simp -implicitDefEqProofs only [EV,Nat.reduceEqDiff,reduceCtorEq,];refine hK _ _ ?_;clear hK K)
 exact AWp.ret ⟨_,by rw [Tryz.results211];rfl,rfl⟩
theorem ok_cmpCompare (a b:Str):CallOK Tryz.prog 176 [strV a,strV b] (intV (cmpS a b)):=by
 obtain⟨h1,h2,h3⟩:=bl_cmpS a b
 (refine CallOK.of_body Tryz.func176 rfl (by decide) (by rw [Tryz.ntmps176];simp) ?_;rw [Tryz.ntmps176])
 (refine AWp.seqR [0,1,4,5,6,11,12,13,16,19] [] (by decide +kernel) fun K hK=>?_;simp -implicitDefEqProofs only [EV,Nat.reduceAdd,Nat.reduceEqDiff,reduceCtorEq,];refine hK _ _ ?_;clear hK K)
 (refine AWp.seqR [0,1,4,5,6,11,12,13,16,19] [] (by decide +kernel) fun K hK=>?_;simp -implicitDefEqProofs only [EV,Nat.reduceAdd,Nat.reduceEqDiff,reduceCtorEq,];refine⟨_,.inl ⟨_,rfl,ok_isNaN a,rfl⟩,?_⟩;(try simp -implicitDefEqProofs only [EV,]);refine hK _ _ ?_;clear hK K)
 (refine AWp.seqR [0,1,4,5,6,11,12,13,16,19] [] (by decide +kernel) fun K hK=>?_;simp -implicitDefEqProofs only [EV,Nat.reduceAdd,Nat.reduceEqDiff,reduceCtorEq,];refine⟨_,.inl ⟨_,rfl,ok_isNaN b,rfl⟩,?_⟩;(try simp -implicitDefEqProofs only [EV,]);refine hK _ _ ?_;clear hK K)
 refine AWp.seqK fun K1 hK1=>?_
 (refine AWp.seqR [0,1,4,5,6,11,12,13,16,19] [] (by decide +kernel) fun K hK=>?_;simp -implicitDefEqProofs only [EV,Nat.reduceEqDiff,reduceCtorEq,];refine hK _ _ ?_;clear hK K)
 refine AWp.skipIfK rfl hK1 ?_
 clear hK1 K1
 refine AWp.seqK fun K1 hK1=>?_
 (refine AWp.seqR [0,1,4,5,6,11,12,13,16,19] [] (by decide +kernel) fun K hK=>?_;simp -implicitDefEqProofs only [EV,Nat.reduceEqDiff,reduceCtorEq,];refine hK _ _ ?_;clear hK K)
 refine AWp.skipIfK rfl hK1 ?_
 clear hK1 K1
 refine AWp.seqK fun K1 hK1=>?_
 (refine AWp.seqR [0,1,4,5,6,11,12,13,16,19] [] (by decide +kernel) fun K hK=>?_;simp -implicitDefEqProofs only [EV,Nat.reduceEqDiff,reduceCtorEq,];refine hK _ _ ?_;clear hK K)
 refine AWp.ifRetK rfl hK1 (fun hc=>?_) (fun hc=>?_)
 ·(refine AWp.seqR [0,1,4,5,6,11,12,13,16,19] [] (by decide +kernel) fun K hK=>?_;simp -implicitDefEqProofs only [EV,Nat.reduceEqDiff,reduceCtorEq,Int.reduceNeg,];refine hK _ _ ?_;clear hK K)
  rw [h1.1 hc]
  exact AWp.ret ⟨_,by rw [Tryz.results176];rfl,rfl⟩
 clear hK1 K1
 refine AWp.seqK fun K1 hK1=>?_
 (refine AWp.seqR [0,1,4,5,6,11,12,13,16,19] [] (by decide +kernel) fun K hK=>?_;simp -implicitDefEqProofs only [EV,Nat.reduceEqDiff,reduceCtorEq,];refine hK _ _ ?_;clear hK K)
 refine AWp.ifRetK rfl hK1 (fun hc2=>?_) (fun hc2=>?_)
 ·(refine AWp.seqR [0,1,4,5,6,11,12,13,16,19] [] (by decide +kernel) fun K hK=>?_;simp -implicitDefEqProofs only [EV,Nat.reduceEqDiff,reduceCtorEq,];refine hK _ _ ?_;clear hK K)
  rw [h2.1 hc2]
  exact AWp.ret ⟨_,by rw [Tryz.results176];rfl,rfl⟩
 clear hK1 K1
 (refine AWp.seqR [0,1,4,5,6,11,12,13,16,19] [] (by decide +kernel) fun K hK=>?_;simp -implicitDefEqProofs only [EV,Nat.reduceEqDiff,reduceCtorEq,];refine hK _ _ ?_;clear hK K)
 have:cmpS a b=0:=by
  rcases h3 with h | h | h
  ·rw [h1.2 h] at hc;simp at hc
  ·exact h
  ·rw [h2.2 h] at hc2;simp at hc2
 rw [this]
 exact AWp.ret ⟨_,by rw [Tryz.results176];rfl,rfl⟩
theorem ok_nameCompare (a b:Str):CallOK Tryz.prog 125 [strV a,strV b] (intV (cmpS a b)):=by
 (refine CallOK.of_body Tryz.func125 rfl (by decide) (by rw [Tryz.ntmps125];simp) ?_;rw [Tryz.ntmps125])
 (refine AWp.seqR [0,1,4] [] (by decide +kernel) fun K hK=>?_;simp -implicitDefEqProofs only [EV,Nat.reduceAdd,Nat.reduceEqDiff,reduceCtorEq,];refine hK _ _ ?_;clear hK K)
 (refine AWp.seqR [0,1,4] [] (by decide +kernel) fun K hK=>?_;simp -implicitDefEqProofs only [EV,Nat.reduceAdd,Nat.reduceEqDiff,reduceCtorEq,];refine⟨_,.inl ⟨_,rfl,ok_cmpCompare a b,rfl⟩,?_⟩;(try simp -implicitDefEqProofs only [EV,]);refine hK _ _ ?_;clear hK K)
 exact AWp.ret ⟨_,by rw [Tryz.results125];rfl,rfl⟩
theorem ok_Or (a b:Int):CallOK Tryz.prog 170 [.d (.slice [[.int .i64 a],[.int .i64 b]])] (intV (if a≠0 then a else b)):=by
 (refine CallOK.of_body Tryz.func170 rfl (by decide) (by rw [Tryz.ntmps170];simp) ?_;rw [Tryz.ntmps170])
 (refine AWp.seqR [0,2,3,5,6,7,8,9,14] [] (by decide +kernel) fun K hK=>?_;simp -implicitDefEqProofs only [EV,Nat.reduceEqDiff,reduceCtorEq,];refine hK _ _ ?_;clear hK K)
 (refine AWp.seqR [0,2,3,5,6,7,8,9,14] [] (by decide +kernel) fun K hK=>?_;simp -implicitDefEqProofs only [EV,Nat.reduceEqDiff,reduceCtorEq,];refine hK _ _ ?_;clear hK K)
 refine AWp.seqK fun K1 hK1=>?_
 (refine AWp.seqR [0,2,3,5,6,7,8,9,14] [] (by decide +kernel) fun K hK=>?_;simp -implicitDefEqProofs only [EV,Nat.reduceAdd,Nat.reduceEqDiff,reduceCtorEq,TF235];refine hK _ _ ?_;clear hK K)
 refine AWp.block (AWp.forIdx [a,b] (X:=Unit) (fun j _=>[(3,intV 0),(6,.d (.slice [[.int .i64 a],[.int .i64 b]])),(7,intV 2),(8,intV j)]) (fun _ _=>[])
  (fun j _=>(1≤j→a=0)∧(2≤j→b=0)) () (by simp) (by simp [sle,vle,sget]) (by simp [ble,]) ?_ ?_)
 ·intro _ hI
  (refine AWp.seqR [0,2,3,5,6,7,8,9,14] [] (by decide +kernel) fun K hK=>?_;simp -implicitDefEqProofs only [EV,Nat.reduceAdd,Nat.reduceEqDiff,reduceCtorEq,];refine hK _ _ ?_;clear hK K)
  refine AWp.stop rfl ?_
  simp only [thenA,blockA,if_true]
  refine hK1 _ _ ?_
  (refine AWp.seqR [0,2,3,5,6,7,8,9,14] [] (by decide +kernel) fun K hK=>?_;simp -implicitDefEqProofs only [EV,Nat.reduceEqDiff,reduceCtorEq,];refine hK _ _ ?_;clear hK K)
  obtain⟨h1,h2⟩:=hI
  simp only [List.length_cons,List.length_nil] at h1 h2
  rw [h1 (by omega),h2 (by omega)]
  exact AWp.ret ⟨_,by rw [Tryz.results170];rfl,rfl⟩
 ·intro j _ d hd hmem hdrop htake hlt hI
  have hlt2:(j:Int) < 2:=by simpa using hlt
  have hg:([[.int .i64 a],[.int .i64 b]]:List (List D))[j]? = some [.int .i64 d]:=by
   match j,hd,hlt2 with
   | 0,hd,_=>simp at hd;subst hd;rfl
   | 1,hd,_=>simp at hd;subst hd;rfl
   | j+2,_,h=>omega
  (refine AWp.seqR [0,2,3,5,6,7,8,9,14] [] (by decide +kernel) fun K hK=>?_;simp -implicitDefEqProofs only [EV,Nat.reduceEqDiff,reduceCtorEq,hlt2];refine hK _ _ ?_;clear hK K)
  refine AWp.goOn rfl ?_
  refine AWp.seqK fun K2 hK2=>?_
  refine AWp.block ?_
  (refine AWp.seqR [0,2,3,5,6,7,8,9,14] [] (by decide +kernel) fun K hK=>?_;simp -implicitDefEqProofs only [EV,Nat.reduceEqDiff,reduceCtorEq,TF3,TF235];refine⟨by omega,_,hg,rfl,?_⟩;(try simp -implicitDefEqProofs only [EV,Nat.reduceEqDiff,reduceCtorEq,]);refine hK _ _ ?_;clear hK K)
  (refine AWp.seqR [0,2,3,5,6,7,8,9,14] [] (by decide +kernel) fun K hK=>?_;simp -implicitDefEqProofs only [EV,Nat.reduceEqDiff,reduceCtorEq,];refine hK _ _ ?_;clear hK K)
  refine AWp.cond rfl (fun hc=>?_) (fun hc=>?_)
  ·(refine AWp.seqR [0,2,3,5,6,7,8,9,14] [] (by decide +kernel) fun K hK=>?_;simp -implicitDefEqProofs only [EV,Nat.reduceEqDiff,reduceCtorEq,];refine hK _ _ ?_;clear hK K)
   have hv:(if a≠0 then a else b)=d:=by
    simp only [decide_eq_true_eq,] at hc
    match j,hd,hI with
    | 0,hd,_=>simp at hd;subst hd;rw [if_pos hc]
    | 1,hd,hI=>simp at hd;subst hd;rw [if_neg (by simp [hI.1 (by omega)])]
    | j+2,hd,_=>simp at hd
   rw [hv]
   exact AWp.ret ⟨_,by rw [Tryz.results170];rfl,rfl⟩
  ·refine AWp.skip (hK2 _ _ ?_)
   clear hK2 K2
   (refine AWp.lastR [0,2,3,5,6,7,8,9,14] [] (by decide +kernel) fun K hK=>?_;simp -implicitDefEqProofs only [EV,Nat.reduceEqDiff,reduceCtorEq,];refine⟨by first | (unfold InR;omega) | (simp only [InR,sm,lim] at *;omega),?_⟩;(try simp -implicitDefEqProofs only [EV,forall_const,implies_true,Nat.reduceAdd,Nat.reduceEqDiff,Nat.reduceBEq,Nat.reduceLeDiff,Nat.reduceSub,Nat.reduceMul,Int.reduceEq,Int.reduceLT,Int.reduceLE,Int.reduceSub,Int.reduceAdd,Int.reduceToNat,reduceCtorEq,Int.reduceNeg,TF3,TF4,TF9,TF235]);refine hK _ _ ?_;clear hK K;try simp only [thenA,])
   refine⟨(),?_,(by simp [sle,vle,sget]),(by simp [ble,])⟩
   simp only [decide_eq_false_iff_not,Decidable.not_not] at hc
   match j,hd,hI with
   | 0,hd,_=>simp at hd;subst hd;exact⟨fun _=>hc,by omega⟩
   | 1,hd,hI=>simp at hd;subst hd;exact⟨fun _=>hI.1 (by omega),fun _=>hc⟩
   | j+2,hd,_=>simp at hd
mutual
def cmpT:Ty→Ty→Int
 | .mk n a _,u=>if cmpS n u.name≠0 then cmpS n u.name else cmpTL a u.args
def cmpTL:List Ty→List Ty→Int
 | [],[]=>0
 | [],_::_=>-1
 | _::_,[]=>1
 | x::xs,y::ys=>if cmpT x y≠0 then cmpT x y else cmpTL xs ys
end
theorem cmpT_eq (t u:Ty):cmpT t u=if cmpS t.name u.name≠0 then cmpS t.name u.name else cmpTL t.args u.args:=by
 cases t with | mk n a p=>rw [cmpT];rfl
def sameT (t u:Ty):Bool:=decide (cmpT t u=0)
theorem ok_CompareFunc (f:FuncId)(l m:List Ty)(hl:l.length≤sm)(hf:∀ t,t∈l→∀ u,CallOK Tryz.prog f [tyV t,tyV u] (intV (cmpT t u))) :
  CallOK Tryz.prog 171 [tysV l,tysV m,.clo f []] (intV (cmpTL l m)):=by
 (refine CallOK.of_body Tryz.func171 rfl (by decide) (by rw [Tryz.ntmps171];simp) ?_;rw [Tryz.ntmps171])
 (refine AWp.seqR [0,1,2,6,7,8,9,10,11,12,13,14,21,31,38] [] (by decide +kernel) fun K hK=>?_;simp -implicitDefEqProofs only [EV,Nat.reduceAdd,Nat.reduceEqDiff,reduceCtorEq,];refine hK _ _ ?_;clear hK K)
 refine AWp.seqK fun K1 hK1=>?_
 (refine AWp.seqR [0,1,2,6,7,8,9,10,11,12,13,14,21,31,38] [] (by decide +kernel) fun K hK=>?_;simp -implicitDefEqProofs only [EV,Nat.reduceEqDiff,reduceCtorEq,TF23];refine hK _ _ ?_;clear hK K)
 refine AWp.block (AWp.forIdx l (X:=Unit) (fun j _=>[(0,tysV l),(1,tysV m),(2,.clo f []),(11,tysV l),(12,intV l.length),(13,intV j)]) (fun _ _=>[])
  (fun j _=>j≤m.length∧cmpTL (l.drop j) (m.drop j)=cmpTL l m) () (by simp) (by simp [sle,vle,sget]) (by simp [ble,]) ?_ ?_)
 ·rintro _ ⟨hj,hI⟩
  (refine AWp.seqR [0,1,2,6,7,8,9,10,11,12,13,14,21,31,38] [] (by decide +kernel) fun K hK=>?_;simp -implicitDefEqProofs only [EV,Nat.reduceEqDiff,reduceCtorEq,Int.lt_irrefl];refine hK _ _ ?_;clear hK K)
  refine AWp.stop rfl ?_
  simp only [thenA,blockA,if_true]
  refine hK1 _ _ ?_
  rw [List.drop_length] at hI
  clear hK1 K1
  refine AWp.seqK fun K1 hK1=>?_
  (refine AWp.seqR [0,1,2,6,7,8,9,10,11,12,13,14,21,31,38] [] (by decide +kernel) fun K hK=>?_;simp -implicitDefEqProofs only [EV,Nat.reduceEqDiff,reduceCtorEq,TF23];refine hK _ _ ?_;clear hK K)
  refine AWp.ifRetK rfl hK1 (fun hc=>?_) (fun hc=>?_)
  ·(refine AWp.seqR [0,1,2,6,7,8,9,10,11,12,13,14,21,31,38] [] (by decide +kernel) fun K hK=>?_;simp -implicitDefEqProofs only [EV,Nat.reduceEqDiff,reduceCtorEq,Int.reduceNeg,];refine hK _ _ ?_;clear hK K)
   have:cmpTL l m = -1:=by
    rw [← hI]
    have hc:l.length < m.length:=by simpa using hc
    rw [List.drop_eq_getElem_cons hc,cmpTL]
   rw [this]
   exact AWp.ret ⟨_,by rw [Tryz.results171];rfl,rfl⟩
  ·clear hK1 K1
   (refine AWp.seqR [0,1,2,6,7,8,9,10,11,12,13,14,21,31,38] [] (by decide +kernel) fun K hK=>?_;simp -implicitDefEqProofs only [EV,Nat.reduceEqDiff,reduceCtorEq,];refine hK _ _ ?_;clear hK K)
   have:cmpTL l m=0:=by
    rw [← hI]
    have hc:m.length≤l.length:=by simpa using hc
    rw [List.drop_eq_nil_of_le hc,cmpTL]
   rw [this]
   exact AWp.ret ⟨_,by rw [Tryz.results171];rfl,rfl⟩
 ·rintro j _ d hd hmem hdrop htake hlt ⟨hj,hI⟩
  rw [hdrop] at hI
  (refine AWp.seqR [0,1,2,6,7,8,9,10,11,12,13,14,21,31,38] [] (by decide +kernel) fun K hK=>?_;simp -implicitDefEqProofs only [EV,Nat.reduceEqDiff,reduceCtorEq,hlt];refine hK _ _ ?_;clear hK K)
  refine AWp.goOn rfl ?_
  refine AWp.seqK fun K2 hK2=>?_
  refine AWp.block ?_
  (refine AWp.seqR [0,1,2,6,7,8,9,10,11,12,13,14,21,31,38] [] (by decide +kernel) fun K hK=>?_;simp -implicitDefEqProofs only [EV,Nat.reduceEqDiff,reduceCtorEq,TF23,TF25];refine⟨by omega,_,tyR_get hd,rfl,?_⟩;(try simp -implicitDefEqProofs only [EV,Nat.reduceAdd,Nat.reduceEqDiff,Nat.reduceLeDiff,reduceCtorEq,TF25]);refine hK _ _ ?_;clear hK K)
  refine AWp.seqK fun K3 hK3=>?_
  (refine AWp.seqR [0,1,2,6,7,8,9,10,11,12,13,14,21,31,38] [] (by decide +kernel) fun K hK=>?_;simp -implicitDefEqProofs only [EV,Nat.reduceEqDiff,reduceCtorEq,TF23];refine hK _ _ ?_;clear hK K)
  refine AWp.ifRetK rfl hK3 (fun hc=>?_) (fun hc=>?_)
  ·(refine AWp.seqR [0,1,2,6,7,8,9,10,11,12,13,14,21,31,38] [] (by decide +kernel) fun K hK=>?_;simp -implicitDefEqProofs only [EV,Nat.reduceEqDiff,reduceCtorEq,];refine hK _ _ ?_;clear hK K)
   have:cmpTL l m=1:=by
    rw [← hI]
    have hc:m.length≤j:=by simpa using hc
    rw [List.drop_eq_nil_of_le hc,cmpTL]
   rw [this]
   exact AWp.ret ⟨_,by rw [Tryz.results171];rfl,rfl⟩
  clear hK3 K3
  have hjm:j < m.length:=by simpa using hc
  obtain⟨e,he⟩:∃ e,m[j]? = some e:=⟨_,List.getElem?_eq_getElem hjm⟩
  have hdm:m.drop j=e::m.drop (j+1):=by
   rw [List.drop_eq_getElem_cons hjm]
   rw [List.getElem?_eq_getElem hjm] at he
   simp only [Option.some.injEq] at he
   rw [he]
  rw [hdm,cmpTL] at hI
  (refine AWp.seqR [0,1,2,6,7,8,9,10,11,12,13,14,21,31,38] [] (by decide +kernel) fun K hK=>?_;simp -implicitDefEqProofs only [EV,Nat.reduceEqDiff,reduceCtorEq,TF23,TF25];refine⟨by omega,_,tyR_get he,rfl,?_⟩;(try simp -implicitDefEqProofs only [EV,Nat.reduceAdd,Nat.reduceEqDiff,Nat.reduceBEq,Nat.reduceLeDiff,reduceCtorEq,TF25]);refine hK _ _ ?_;clear hK K)
  (refine AWp.seqR [0,1,2,6,7,8,9,10,11,12,13,14,21,31,38] [] (by decide +kernel) fun K hK=>?_;simp -implicitDefEqProofs only [EV,Nat.reduceAdd,Nat.reduceEqDiff,reduceCtorEq,TF25];refine⟨_,.inl ⟨_,rfl,hf d hmem e,rfl⟩,?_⟩;(try simp -implicitDefEqProofs only [EV,]);refine hK _ _ ?_;clear hK K)
  (refine AWp.seqR [0,1,2,6,7,8,9,10,11,12,13,14,21,31,38] [] (by decide +kernel) fun K hK=>?_;simp -implicitDefEqProofs only [EV,Nat.reduceEqDiff,reduceCtorEq,];refine hK _ _ ?_;clear hK K)
  refine AWp.cond rfl (fun hc=>?_) (fun hc=>?_)
  ·(refine AWp.seqR [0,1,2,6,7,8,9,10,11,12,13,14,21,31,38] [] (by decide +kernel) fun K hK=>?_;simp -implicitDefEqProofs only [EV,Nat.reduceEqDiff,reduceCtorEq,];refine hK _ _ ?_;clear hK K)
   rw [if_pos (by simpa using hc)] at hI
   rw [← hI]
   exact AWp.ret ⟨_,by rw [Tryz.results171];rfl,rfl⟩
  rw [if_neg (by simpa using hc)] at hI
  refine AWp.skip (hK2 _ _ ?_)
  clear hK2 K2
  (refine AWp.lastR [0,1,2,6,7,8,9,10,11,12,13,14,21,31,38] [] (by decide +kernel) fun K hK=>?_;simp -implicitDefEqProofs only [EV,Nat.reduceEqDiff,reduceCtorEq,];refine⟨by first | (unfold InR;omega) | (simp only [InR,sm] at *;omega),?_⟩;(try simp -implicitDefEqProofs only [EV,forall_const,implies_true,Nat.reduceAdd,Nat.reduceEqDiff,Nat.reduceBEq,Nat.reduceLeDiff,Nat.reduceSub,Nat.reduceMul,Int.reduceEq,Int.reduceLT,Int.reduceLE,Int.reduceSub,Int.reduceAdd,Int.reduceToNat,reduceCtorEq,Int.reduceNeg,TF3,TF4,TF9,TF23,TF25]);refine hK _ _ ?_;clear hK K;try simp only [thenA,])
  exact⟨(),⟨by omega,hI⟩,(by simp [sle,vle,sget]),(by simp [ble,])⟩
theorem ok_TCompare:∀ (t:Ty),t.Sm→∀ u:Ty,CallOK Tryz.prog 120 [tyV t,tyV u] (intV (cmpT t u)):=by
 intro t
 induction t using Ty.induct with
 | h t ih =>
 intro hs u
 rw [cmpT_eq]
 have hcf:=ok_CompareFunc 120 t.args u.args hs.len (fun x hx y=>ih x hx (hs.arg x hx) y)
 (refine CallOK.of_body Tryz.func120 rfl (by decide) (by rw [Tryz.ntmps120];simp) ?_;rw [Tryz.ntmps120])
 (refine AWp.seqR [0,1,2,3,4] [] (by decide +kernel) fun K hK=>?_;simp -implicitDefEqProofs only [EV,Nat.reduceAdd,Nat.reduceEqDiff,Nat.reduceBEq,Nat.reduceLeDiff,reduceCtorEq,];refine hK _ _ ?_;clear hK K)
 (refine AWp.seqD [0,1,2,3,4] [] 13 mixed (by decide +kernel) (by decide +kernel) fun K hK=>?_;simp -implicitDefEqProofs only [EV,Nat.reduceAdd,Nat.reduceEqDiff,reduceCtorEq,TF3,TF9,TF23,TF25,TF235];refine⟨_,.inl ⟨_,rfl,ok_nameCompare t.name u.name,rfl⟩,?_⟩;(try simp -implicitDefEqProofs only [EV,]);refine⟨_,.inl ⟨_,rfl,hcf,rfl⟩,?_⟩;(try simp -implicitDefEqProofs only [EV,Nat.reduceLeDiff,Nat.reduceMul,]);refine⟨_,.inl ⟨_,rfl,ok_Or _ _,rfl⟩,?_⟩;(try simp -implicitDefEqProofs only [EV,]);refine hK _ _ ?_;clear hK K)
 exact AWp.ret ⟨_,by rw [Tryz.results120];rfl,rfl⟩
theorem ok_TSame (t u:Ty)(hs:t.Sm):CallOK Tryz.prog 72 [tyV t,tyV u] (boolV (sameT t u)):=by
 unfold sameT
 (refine CallOK.of_body Tryz.func72 rfl (by decide) (by rw [Tryz.ntmps72];simp) ?_;rw [Tryz.ntmps72])
 (refine AWp.seqR [0,1,2,3,4] [] (by decide +kernel) fun K hK=>?_;simp -implicitDefEqProofs only [EV,Nat.reduceAdd,Nat.reduceEqDiff,Nat.reduceBEq,Nat.reduceLeDiff,reduceCtorEq,];refine hK _ _ ?_;clear hK K)
 (refine AWp.seqR [0,1,2,3,4] [] (by decide +kernel) fun K hK=>?_;simp -implicitDefEqProofs only [EV,Nat.reduceAdd,Nat.reduceEqDiff,reduceCtorEq,TF25];refine⟨_,.inl ⟨_,rfl,ok_TCompare t hs u,rfl⟩,?_⟩;(try simp -implicitDefEqProofs only [EV,Nat.reduceEqDiff,reduceCtorEq,]);refine hK _ _ ?_;clear hK K)
 exact AWp.ret ⟨_,by rw [Tryz.results72];rfl,rfl⟩
theorem ok_RCompare:∀ (t:Ty),t.Sm→∀ u:Ty,CallOK Tryz.prog 90 [tyV t,tyV u] (intV (cmpT t u)):=by
 intro t
 induction t using Ty.induct with
 | h t ih =>
 intro hs u
 have hlen:=hs.len
 rw [cmpT_eq]
 (refine CallOK.of_body Tryz.func90 rfl (by decide) (by rw [Tryz.ntmps90];simp) ?_;rw [Tryz.ntmps90])
 (refine AWp.seqR [0,1,2,3,4,5,6,11,28,43,51,58] [] (by decide +kernel) fun K hK=>?_;simp -implicitDefEqProofs only [EV,Nat.reduceAdd,Nat.reduceEqDiff,Nat.reduceBEq,Nat.reduceLeDiff,reduceCtorEq,];refine hK _ _ ?_;clear hK K)
 refine AWp.seqK fun K1 hK1=>?_
 (refine AWp.seqR [0,1,2,3,4,5,6,11,28,43,51,58] [] (by decide +kernel) fun K hK=>?_;simp -implicitDefEqProofs only [EV,Nat.reduceEqDiff,reduceCtorEq,TF9,TF25];refine hK _ _ ?_;clear hK K)
 refine AWp.ifRetK rfl hK1 (fun hc=>?_) (fun hc=>?_)
 ·(refine AWp.seqR [0,1,2,3,4,5,6,11,28,43,51,58] [] (by decide +kernel) fun K hK=>?_;simp -implicitDefEqProofs only [EV,Nat.reduceAdd,Nat.reduceEqDiff,reduceCtorEq,TF9,TF25];refine⟨_,.inl ⟨_,rfl,ok_Compare t.name u.name,rfl⟩,?_⟩;(try simp -implicitDefEqProofs only [EV,]);refine hK _ _ ?_;clear hK K)
  rw [if_pos (fun h=>(by simpa using hc:¬ t.name=u.name) (cmpS_zero.1 h))]
  exact AWp.ret ⟨_,by rw [Tryz.results90];rfl,rfl⟩
 clear hK1 K1
 have hnm:t.name=u.name:=by simpa using hc
 rw [if_neg (by rw [hnm];simp [cmpS_refl])]
 refine AWp.seqK fun K1 hK1=>?_
 (refine AWp.seqR [0,1,2,3,4,5,6,11,28,43,51,58] [] (by decide +kernel) fun K hK=>?_;simp -implicitDefEqProofs only [EV,Nat.reduceEqDiff,reduceCtorEq,];refine hK _ _ ?_;clear hK K)
 have fin:∀ (j:Nat) sl bx,sle sl [(2,.box 2 0),(3,.box 3 0)]→ble bx [(2,.cells [.d (.str t.name),tysV t.args,intV t.pos]),(3,.cells [.d (.str u.name),tysV u.args,intV u.pos])]→j≤t.args.length→j≤u.args.length→(t.args.length=j∨u.args.length=j)→cmpTL (t.args.drop j) (u.args.drop j)=cmpTL t.args u.args→K1 sl bx:=by
  intro j sl bx h1 h2 hj1 hj2 hor hI
  refine hK1 _ _ (AWp.weaken h1 h2 ?_)
  clear hK1 K1
  refine AWp.seqK fun K1 hK1=>?_
  (refine AWp.seqR [0,1,2,3,4,5,6,11,28,43,51,58] [] (by decide +kernel) fun K hK=>?_;simp -implicitDefEqProofs only [EV,Nat.reduceEqDiff,reduceCtorEq,TF23,TF25];refine hK _ _ ?_;clear hK K)
  refine AWp.ifRetK rfl hK1 (fun hc=>?_) (fun hc=>?_)
  ·(refine AWp.seqR [0,1,2,3,4,5,6,11,28,43,51,58] [] (by decide +kernel) fun K hK=>?_;simp -implicitDefEqProofs only [EV,Nat.reduceEqDiff,reduceCtorEq,Int.reduceNeg,];refine hK _ _ ?_;clear hK K)
   have:cmpTL t.args u.args = -1:=by
    rw [← hI]
    have hc:t.args.length < u.args.length:=by simpa using hc
    have:t.args.length=j:=by omega
    rw [List.drop_eq_nil_of_le (by omega),List.drop_eq_getElem_cons (show j < u.args.length by omega),cmpTL]
   rw [this]
   exact AWp.ret ⟨_,by rw [Tryz.results90];rfl,rfl⟩
  clear hK1 K1
  refine AWp.seqK fun K1 hK1=>?_
  (refine AWp.seqR [0,1,2,3,4,5,6,11,28,43,51,58] [] (by decide +kernel) fun K hK=>?_;simp -implicitDefEqProofs only [EV,Nat.reduceEqDiff,reduceCtorEq,TF23,TF25];refine hK _ _ ?_;clear hK K)
  refine AWp.ifRetK rfl hK1 (fun hc2=>?_) (fun hc2=>?_)
  ·(refine AWp.seqR [0,1,2,3,4,5,6,11,28,43,51,58] [] (by decide +kernel) fun K hK=>?_;simp -implicitDefEqProofs only [EV,Nat.reduceEqDiff,reduceCtorEq,];refine hK _ _ ?_;clear hK K)
   have:cmpTL t.args u.args=1:=by
    rw [← hI]
    have hc:u.args.length < t.args.length:=by simpa using hc2
    rw [List.drop_eq_getElem_cons (show j < t.args.length by omega),List.drop_eq_nil_of_le (show u.args.length≤j by omega),cmpTL]
   rw [this]
   exact AWp.ret ⟨_,by rw [Tryz.results90];rfl,rfl⟩
  clear hK1 K1
  (refine AWp.seqR [0,1,2,3,4,5,6,11,28,43,51,58] [] (by decide +kernel) fun K hK=>?_;simp -implicitDefEqProofs only [EV,Nat.reduceEqDiff,reduceCtorEq,];refine hK _ _ ?_;clear hK K)
  have:cmpTL t.args u.args=0:=by
   rw [← hI]
   have h1:u.args.length≤t.args.length:=by simpa using hc
   have h2:t.args.length≤u.args.length:=by simpa using hc2
   rw [List.drop_eq_nil_of_le (by omega),List.drop_eq_nil_of_le (by omega),cmpTL]
  rw [this]
  exact AWp.ret ⟨_,by rw [Tryz.results90];rfl,rfl⟩
 refine AWp.block (AWp.forIdx t.args (X:=Unit) (fun j _=>[(2,.box 2 0),(3,.box 3 0),(5,intV j)]) (fun _ _=>[(2,.cells [.d (.str t.name),tysV t.args,intV t.pos]),(3,.cells [.d (.str u.name),tysV u.args,intV u.pos])])
  (fun j _=>j≤u.args.length∧cmpTL (t.args.drop j) (u.args.drop j)=cmpTL t.args u.args) () (by simp) (by simp [sle,vle,sget]) (by simp [ble,bget,]) ?_ ?_)
 ·rintro _ ⟨hj,hI⟩
  refine AWp.seqK fun K2 hK2=>?_
  (refine AWp.seqR [0,1,2,3,4,5,6,11,28,43,51,58] [] (by decide +kernel) fun K hK=>?_;simp -implicitDefEqProofs only [EV,Nat.reduceEqDiff,reduceCtorEq,TF23,TF25,Int.lt_irrefl];refine hK _ _ ?_;clear hK K)
  refine AWp.stopK rfl ?_
  simp only [thenA,blockA,if_true]
  exact fin t.args.length _ _ (by simp [sle,vle,sget]) (by simp [ble,bget,]) (Nat.le_refl _) hj (.inl rfl) hI
 ·rintro j _ d hd hmem hdrop htake hlt ⟨hj,hI⟩
  refine AWp.seqK fun K2 hK2=>?_
  by_cases hjm:(j:Int) < (u.args.length:Int)
  ·obtain⟨e,he⟩:∃ e,u.args[j]? = some e:=⟨_,List.getElem?_eq_getElem (by omega)⟩
   have hdm:u.args.drop j=e::u.args.drop (j+1):=by
    rw [List.drop_eq_getElem_cons (by omega)]
    rw [List.getElem?_eq_getElem (by omega)] at he
    simp only [Option.some.injEq] at he
    rw [he]
   rw [hdrop,hdm,cmpTL] at hI
   (refine AWp.seqR [0,1,2,3,4,5,6,11,28,43,51,58] [] (by decide +kernel) fun K hK=>?_;simp -implicitDefEqProofs only [EV,Nat.reduceEqDiff,reduceCtorEq,TF23,TF25,hlt,hjm];refine hK _ _ ?_;clear hK K)
   refine AWp.goOnK rfl hK2 ?_
   clear hK2 K2
   refine AWp.seqK fun K2 hK2=>?_
   refine AWp.block ?_
   (refine AWp.seqD [0,1,2,3,4,5,6,11,28,43,51,58] [] 12 mixed (by decide +kernel) (by decide +kernel) fun K hK=>?_;simp -implicitDefEqProofs only [EV,Nat.reduceEqDiff,reduceCtorEq,TF23,TF25];refine⟨by omega,_,tyR_get hd,rfl,?_⟩;(try simp -implicitDefEqProofs only [EV,Nat.reduceAdd,Nat.reduceEqDiff,reduceCtorEq,TF23,TF25]);refine⟨by omega,_,tyR_get he,rfl,?_⟩;(try simp -implicitDefEqProofs only [EV,Nat.reduceAdd,Nat.reduceEqDiff,reduceCtorEq,]);refine⟨_,.inl ⟨_,rfl,ih d hmem (hs.arg d hmem) e,rfl⟩,?_⟩;(try simp -implicitDefEqProofs only [EV,]);refine hK _ _ ?_;clear hK K)
   (refine AWp.seqR [0,1,2,3,4,5,6,11,28,43,51,58] [] (by decide +kernel) fun K hK=>?_;simp -implicitDefEqProofs only [EV,Nat.reduceEqDiff,reduceCtorEq,];refine hK _ _ ?_;clear hK K)
   refine AWp.cond rfl (fun hc=>?_) (fun hc=>?_)
   ·(refine AWp.seqR [0,1,2,3,4,5,6,11,28,43,51,58] [] (by decide +kernel) fun K hK=>?_;simp -implicitDefEqProofs only [EV,Nat.reduceEqDiff,reduceCtorEq,];refine hK _ _ ?_;clear hK K)
    rw [if_pos (by simpa using hc)] at hI
    rw [← hI]
    exact AWp.ret ⟨_,by rw [Tryz.results90];rfl,rfl⟩
   rw [if_neg (by simpa using hc)] at hI
   refine AWp.skip (hK2 _ _ ?_)
   clear hK2 K2
   (refine AWp.lastR [0,1,2,3,4,5,6,11,28,43,51,58] [] (by decide +kernel) fun K hK=>?_;simp -implicitDefEqProofs only [EV,Nat.reduceEqDiff,reduceCtorEq,];refine⟨by first | (unfold InR;omega) | (simp only [InR,sm] at *;omega),?_⟩;(try simp -implicitDefEqProofs only [EV,forall_const,implies_true,Nat.reduceAdd,Nat.reduceEqDiff,Nat.reduceBEq,Nat.reduceLeDiff,Nat.reduceSub,Nat.reduceMul,Int.reduceEq,Int.reduceLT,Int.reduceLE,Int.reduceSub,Int.reduceAdd,Int.reduceToNat,reduceCtorEq,Int.reduceNeg,TF3,TF4,TF9,TF23,TF25]);refine hK _ _ ?_;clear hK K;try simp only [thenA,])
   exact⟨(),⟨by omega,hI⟩,(by simp [sle,vle,sget]),(by simp [ble,bget,])⟩
  ·(refine AWp.seqR [0,1,2,3,4,5,6,11,28,43,51,58] [] (by decide +kernel) fun K hK=>?_;simp -implicitDefEqProofs only [EV,Nat.reduceEqDiff,reduceCtorEq,TF23,TF25,hlt,hjm];refine hK _ _ ?_;clear hK K)
   refine AWp.stopK rfl ?_
   simp only [thenA,blockA,if_true]
   exact fin j _ _ (by simp [sle,vle,sget]) (by simp [ble,bget,]) (by omega) hj (.inr (by omega)) hI
theorem ok_RSame (t u:Ty)(hs:t.Sm):CallOK Tryz.prog 48 [tyV t,tyV u] (boolV (sameT t u)):=by
 unfold sameT
 (refine CallOK.of_body Tryz.func48 rfl (by decide) (by rw [Tryz.ntmps48];simp) ?_;rw [Tryz.ntmps48])
 (refine AWp.seqR [0,1,2,3,4] [] (by decide +kernel) fun K hK=>?_;simp -implicitDefEqProofs only [EV,Nat.reduceAdd,Nat.reduceEqDiff,Nat.reduceBEq,Nat.reduceLeDiff,reduceCtorEq,];refine hK _ _ ?_;clear hK K)
 (refine AWp.seqR [0,1,2,3,4] [] (by decide +kernel) fun K hK=>?_;simp -implicitDefEqProofs only [EV,Nat.reduceAdd,Nat.reduceEqDiff,reduceCtorEq,TF25];refine⟨_,.inl ⟨_,rfl,ok_RCompare t hs u,rfl⟩,?_⟩;(try simp -implicitDefEqProofs only [EV,Nat.reduceEqDiff,reduceCtorEq,]);refine hK _ _ ?_;clear hK K)
 exact AWp.ret ⟨_,by rw [Tryz.results48];rfl,rfl⟩
end Go.Abs
namespace Go.Abs
set_option linter.unusedSimpArgs false
set_option linter.unusedVariables false
open Go Go.Proofs
set_option maxRecDepth 100000
set_option maxHeartbeats 1000000
abbrev exS (e:Ex):List SV:=[.d (.int .i64 e.kind),.d (.str e.name),.d (.str e.type.name),.d (.slice (tyR e.type.args)),.d (.int .i64 e.type.pos),.d (.slice (tyR e.targs)),.d (.slice (exR e.kids)),.d (.int .i64 e.pos)]
def sameTL:List Ty→List Ty→Bool
 | [],[]=>true
 | x::xs,y::ys=>sameT x y && sameTL xs ys
 | _,_=>false
theorem sameTL_len:∀ {l m:List Ty},sameTL l m=true→l.length=m.length
 | [],[],_=>rfl
 | x::xs,y::ys,h=>by
  simp only [sameTL,Bool.and_eq_true] at h
  simp [sameTL_len h.2]
 | [],_::_,h=>by simp [sameTL] at h
 | _::_,[],h=>by simp [sameTL] at h
mutual
def sameE:Ex→Ex→Bool
 | .mk k n t a ks _,u=>decide (k=u.kind) && decide (n=u.name) && sameT t u.type && sameTL a u.targs && sameEL ks u.kids
def sameEL:List Ex→List Ex→Bool
 | [],[]=>true
 | x::xs,y::ys=>sameE x y && sameEL xs ys
 | _,_=>false
end
theorem sameE_eq (e u:Ex):sameE e u=(decide (e.kind=u.kind) && decide (e.name=u.name) && sameT e.type u.type && sameTL e.targs u.targs && sameEL e.kids u.kids):=by
 cases e with | mk k n t a ks p=>rw [sameE];rfl
theorem sameEL_len:∀ {l m:List Ex},sameEL l m=true→l.length=m.length
 | [],[],_=>rfl
 | x::xs,y::ys,h=>by
  rw [sameEL,Bool.and_eq_true] at h
  simp [sameEL_len h.2]
 | [],_::_,h=>by simp [sameEL] at h
 | _::_,[],h=>by simp [sameEL] at h
theorem drop_get {α:Type} {l:List α} {j:Nat} (h:j < l.length):∃ e,l[j]? = some e∧l.drop j=e::l.drop (j+1):=⟨l[j],List.getElem?_eq_getElem h,List.drop_eq_getElem_cons h⟩
theorem ok_sameTypes (l m:List Ty)(hl:l.length≤sm)(hs:∀ t,t∈l→t.Sm):CallOK Tryz.prog 57 [tysV l,tysV m] (boolV (sameTL l m)):=by
 (refine CallOK.of_body Tryz.func57 rfl (by decide) (by rw [Tryz.ntmps57];simp) ?_;rw [Tryz.ntmps57])
 (refine AWp.seqR [0,1,4,5,10,14,26] [] (by decide +kernel) fun K hK=>?_;simp -implicitDefEqProofs only [EV,Nat.reduceAdd,Nat.reduceEqDiff,reduceCtorEq,];refine hK _ _ ?_;clear hK K)
 refine AWp.seqK fun K1 hK1=>?_
 (refine AWp.seqR [0,1,4,5,10,14,26] [] (by decide +kernel) fun K hK=>?_;simp -implicitDefEqProofs only [EV,Nat.reduceEqDiff,reduceCtorEq,TF23];refine hK _ _ ?_;clear hK K)
 refine AWp.ifRetK rfl hK1 (fun hc=>?_) (fun hc=>?_)
 ·(refine AWp.seqR [0,1,4,5,10,14,26] [] (by decide +kernel) fun K hK=>?_;simp -implicitDefEqProofs only [EV,Nat.reduceEqDiff,reduceCtorEq,];refine hK _ _ ?_;clear hK K)
  have:sameTL l m=false:=by
   cases h:sameTL l m with
   | false=>rfl
   | true=>have:=sameTL_len h;simp [this] at hc
  rw [this]
  exact AWp.ret ⟨_,by rw [Tryz.results57];rfl,rfl⟩
 clear hK1 K1
 have hlm:l.length=m.length:=by
  have:(l.length:Int)=m.length:=by simpa using hc
  omega
 refine AWp.seqK fun K1 hK1=>?_
 (refine AWp.seqR [0,1,4,5,10,14,26] [] (by decide +kernel) fun K hK=>?_;simp -implicitDefEqProofs only [EV,Nat.reduceEqDiff,reduceCtorEq,];refine hK _ _ ?_;clear hK K)
 refine AWp.block (AWp.forIdx l (X:=Unit) (fun j _=>[(0,tysV l),(1,tysV m),(5,intV j)]) (fun _ _=>[])
  (fun j _=>sameTL (l.drop j) (m.drop j)=sameTL l m) () (by simp) (by simp [sle,vle,sget]) (by simp [ble,]) ?_ ?_)
 ·intro _ hI
  refine AWp.seqK fun K2 hK2=>?_
  (refine AWp.seqR [0,1,4,5,10,14,26] [] (by decide +kernel) fun K hK=>?_;simp -implicitDefEqProofs only [EV,Nat.reduceEqDiff,reduceCtorEq,TF23,Int.lt_irrefl];refine hK _ _ ?_;clear hK K)
  refine AWp.stopK rfl ?_
  simp only [thenA,blockA,if_true]
  refine hK1 _ _ ?_
  (refine AWp.seqR [0,1,4,5,10,14,26] [] (by decide +kernel) fun K hK=>?_;simp -implicitDefEqProofs only [EV,Nat.reduceEqDiff,reduceCtorEq,];refine hK _ _ ?_;clear hK K)
  rw [List.drop_length,hlm,List.drop_length] at hI
  rw [← hI]
  exact AWp.ret ⟨_,by rw [Tryz.results57];rfl,rfl⟩
 ·intro j _ d hd hmem hdrop htake hlt hI
  obtain⟨e,he,hdm⟩:=drop_get (l:=m) (j:=j) (by omega)
  rw [hdrop,hdm,sameTL] at hI
  refine AWp.seqK fun K2 hK2=>?_
  (refine AWp.seqR [0,1,4,5,10,14,26] [] (by decide +kernel) fun K hK=>?_;simp -implicitDefEqProofs only [EV,Nat.reduceEqDiff,reduceCtorEq,TF23,hlt];refine hK _ _ ?_;clear hK K)
  refine AWp.goOnK rfl hK2 ?_
  clear hK2 K2
  refine AWp.seqK fun K2 hK2=>?_
  refine AWp.block ?_
  (refine AWp.seqD [0,1,4,5,10,14,26] [] 10 mixed (by decide +kernel) (by decide +kernel) fun K hK=>?_;simp -implicitDefEqProofs only [EV,Nat.reduceEqDiff,reduceCtorEq,TF23,TF25];refine⟨by omega,_,tyR_get hd,rfl,?_⟩;(try simp -implicitDefEqProofs only [EV,Nat.reduceAdd,Nat.reduceEqDiff,reduceCtorEq,TF23,TF25]);refine⟨by omega,_,tyR_get he,rfl,?_⟩;(try simp -implicitDefEqProofs only [EV,Nat.reduceAdd,Nat.reduceEqDiff,reduceCtorEq,]);refine⟨_,.inl ⟨_,rfl,ok_RSame d e (hs d hmem),rfl⟩,?_⟩;(try simp -implicitDefEqProofs only [EV,Nat.reduceEqDiff,reduceCtorEq,]);refine hK _ _ ?_;clear hK K)
  refine AWp.cond rfl (fun hc=>?_) (fun hc=>?_)
  ·(refine AWp.seqR [0,1,4,5,10,14,26] [] (by decide +kernel) fun K hK=>?_;simp -implicitDefEqProofs only [EV,Nat.reduceEqDiff,reduceCtorEq,];refine hK _ _ ?_;clear hK K)
   simp only [Bool.not_eq_true'] at hc
   rw [hc,Bool.false_and] at hI
   rw [← hI]
   exact AWp.ret ⟨_,by rw [Tryz.results57];rfl,rfl⟩
  simp only [Bool.not_eq_false'] at hc
  rw [hc,Bool.true_and] at hI
  refine AWp.skip (hK2 _ _ ?_)
  clear hK2 K2
  (refine AWp.lastR [0,1,4,5,10,14,26] [] (by decide +kernel) fun K hK=>?_;simp -implicitDefEqProofs only [EV,Nat.reduceEqDiff,reduceCtorEq,];refine⟨by first | (unfold InR;omega) | (simp only [InR,sm] at *;omega),?_⟩;(try simp -implicitDefEqProofs only [EV,forall_const,implies_true,Nat.reduceAdd,Nat.reduceEqDiff,Nat.reduceBEq,Nat.reduceLeDiff,Nat.reduceSub,Nat.reduceMul,Int.reduceEq,Int.reduceLT,Int.reduceLE,Int.reduceSub,Int.reduceAdd,Int.reduceToNat,reduceCtorEq,Int.reduceNeg,TF3,TF4,TF9,TF23,TF25]);refine hK _ _ ?_;clear hK K;try simp only [thenA,])
  exact⟨(),hI,(by simp [sle,vle,sget]),(by simp [ble,])⟩
theorem ok_RefSame:∀ (a:Ex),a.Sm→∀ b:Ex,CallOK Tryz.prog 20 [exV a,exV b] (boolV (sameE a b)):=by
 intro a
 induction a using Ex.induct with
 | h a ih =>
 intro hs b
 have hkl:=hs.kids.1
 have hst:=ok_sameTypes a.targs b.targs hs.targs.1 hs.targs.2
 have hsm:=ok_RSame a.type b.type hs.type
 rw [sameE_eq]
 (refine CallOK.of_body Tryz.func20 rfl (by decide) (by rw [Tryz.ntmps20];simp) ?_;rw [Tryz.ntmps20])
 (refine AWp.seqR [0,1,2,3,4,5,42,47,61] [] (by decide +kernel) fun K hK=>?_;simp -implicitDefEqProofs only [EV,Nat.reduceAdd,Nat.reduceEqDiff,Nat.reduceBEq,Nat.reduceLeDiff,reduceCtorEq,];refine hK _ _ ?_;clear hK K)
 refine AWp.seqK fun K1 hK1=>?_
 by_cases h1:a.kind=b.kind
 ·by_cases h2:a.name=b.name
  ·rcases Bool.eq_false_or_eq_true (sameT a.type b.type) with h3 | h3
   ·rw [h3] at hsm
    rcases Bool.eq_false_or_eq_true (sameTL a.targs b.targs) with h4 | h4
    ·rw [h4] at hst
     (refine AWp.seqR [0,1,2,3,4,5,42,47,61] [] (by decide +kernel) fun K hK=>?_;simp -implicitDefEqProofs only [EV,Nat.reduceAdd,Nat.reduceEqDiff,Nat.reduceLeDiff,reduceCtorEq,TF3,TF9,TF25,TF28,h1,h2];refine⟨_,.inl ⟨_,rfl,hsm,rfl⟩,?_⟩;(try simp -implicitDefEqProofs only [EV,Nat.reduceAdd,Nat.reduceEqDiff,reduceCtorEq,TF23,TF28,]);refine⟨_,.inl ⟨_,rfl,hst,rfl⟩,?_⟩;(try simp -implicitDefEqProofs only [EV,Nat.reduceEqDiff,reduceCtorEq,TF26,TF28,]);refine hK _ _ ?_;clear hK K)
     refine AWp.ifRetK rfl hK1 (fun hc=>?_) (fun hc=>?_)
     ·(refine AWp.seqR [0,1,2,3,4,5,42,47,61] [] (by decide +kernel) fun K hK=>?_;simp -implicitDefEqProofs only [EV,Nat.reduceEqDiff,reduceCtorEq,];refine hK _ _ ?_;clear hK K)
      have:sameEL a.kids b.kids=false:=by
       cases h:sameEL a.kids b.kids with
       | false=>rfl
       | true=>have:=sameEL_len h;simp [this] at hc
      rw [this,Bool.and_false]
      exact AWp.ret ⟨_,by rw [Tryz.results20];rfl,rfl⟩
     clear hK1 K1
     simp only [h1,h2,h3,h4,decide_true,Bool.true_and]
     have hlm:a.kids.length=b.kids.length:=by
      have:(a.kids.length:Int)=b.kids.length:=by simpa using hc
      omega
     refine AWp.seqK fun K1 hK1=>?_
     (refine AWp.seqR [0,1,2,3,4,5,42,47,61] [] (by decide +kernel) fun K hK=>?_;simp -implicitDefEqProofs only [EV,Nat.reduceEqDiff,reduceCtorEq,];refine hK _ _ ?_;clear hK K)
     refine AWp.block (AWp.forIdx a.kids (X:=Unit) (fun j _=>[(2,.box 2 0),(3,.box 3 0),(5,intV j)]) (fun _ _=>[(2,.cells (exS a)),(3,.cells (exS b))])
      (fun j _=>sameEL (a.kids.drop j) (b.kids.drop j)=sameEL a.kids b.kids) () (by simp) (by simp [sle,vle,sget]) (by simp [ble,bget,h1,h2]) ?_ ?_)
     ·intro _ hI
      refine AWp.seqK fun K2 hK2=>?_
      (refine AWp.seqR [0,1,2,3,4,5,42,47,61] [] (by decide +kernel) fun K hK=>?_;simp -implicitDefEqProofs only [EV,Nat.reduceEqDiff,reduceCtorEq,TF26,TF28,Int.lt_irrefl];refine hK _ _ ?_;clear hK K)
      refine AWp.stopK rfl ?_
      simp only [thenA,blockA,if_true]
      refine hK1 _ _ ?_
      (refine AWp.seqR [0,1,2,3,4,5,42,47,61] [] (by decide +kernel) fun K hK=>?_;simp -implicitDefEqProofs only [EV,Nat.reduceEqDiff,reduceCtorEq,];refine hK _ _ ?_;clear hK K)
      rw [List.drop_length,hlm,List.drop_length] at hI
      rw [← hI,sameEL]
      exact AWp.ret ⟨_,by rw [Tryz.results20];rfl,rfl⟩
     ·intro j _ d hd hmem hdrop htake hlt hI
      obtain⟨e,he,hdm⟩:=drop_get (l:=b.kids) (j:=j) (by omega)
      rw [hdrop,hdm,sameEL] at hI
      refine AWp.seqK fun K2 hK2=>?_
      (refine AWp.seqR [0,1,2,3,4,5,42,47,61] [] (by decide +kernel) fun K hK=>?_;simp -implicitDefEqProofs only [EV,Nat.reduceEqDiff,reduceCtorEq,TF26,TF28,hlt];refine hK _ _ ?_;clear hK K)
      refine AWp.goOnK rfl hK2 ?_
      clear hK2 K2
      refine AWp.seqK fun K2 hK2=>?_
      refine AWp.block ?_
      (refine AWp.seqD [0,1,2,3,4,5,42,47,61] [] 12 mixed (by decide +kernel) (by decide +kernel) fun K hK=>?_;simp -implicitDefEqProofs only [EV,Nat.reduceEqDiff,reduceCtorEq,TF26,TF28];refine⟨by omega,_,exR_get hd,rfl,?_⟩;(try simp -implicitDefEqProofs only [EV,Nat.reduceAdd,Nat.reduceEqDiff,reduceCtorEq,TF26,TF28]);refine⟨by omega,_,exR_get he,rfl,?_⟩;(try simp -implicitDefEqProofs only [EV,Nat.reduceAdd,Nat.reduceEqDiff,reduceCtorEq,]);refine⟨_,.inl ⟨_,rfl,ih d hmem (hs.kids.2 d hmem) e,rfl⟩,?_⟩;(try simp -implicitDefEqProofs only [EV,Nat.reduceEqDiff,reduceCtorEq,]);refine hK _ _ ?_;clear hK K)
      refine AWp.cond rfl (fun hc=>?_) (fun hc=>?_)
      ·(refine AWp.seqR [0,1,2,3,4,5,42,47,61] [] (by decide +kernel) fun K hK=>?_;simp -implicitDefEqProofs only [EV,Nat.reduceEqDiff,reduceCtorEq,];refine hK _ _ ?_;clear hK K)
       simp only [Bool.not_eq_true'] at hc
       rw [hc,Bool.false_and] at hI
       rw [← hI]
       exact AWp.ret ⟨_,by rw [Tryz.results20];rfl,rfl⟩
      simp only [Bool.not_eq_false'] at hc
      rw [hc,Bool.true_and] at hI
      refine AWp.skip (hK2 _ _ ?_)
      clear hK2 K2
      (refine AWp.lastR [0,1,2,3,4,5,42,47,61] [] (by decide +kernel) fun K hK=>?_;simp -implicitDefEqProofs only [EV,Nat.reduceEqDiff,reduceCtorEq,];refine⟨by first | (unfold InR;omega) | (simp only [InR,sm] at *;omega),?_⟩;(try simp -implicitDefEqProofs only [EV,forall_const,implies_true,Nat.reduceAdd,Nat.reduceEqDiff,Nat.reduceBEq,Nat.reduceLeDiff,Nat.reduceSub,Nat.reduceMul,Int.reduceEq,Int.reduceLT,Int.reduceLE,Int.reduceSub,Int.reduceAdd,Int.reduceToNat,reduceCtorEq,Int.reduceNeg,TF3,TF4,TF9,TF23,TF25,TF26,TF28]);refine hK _ _ ?_;clear hK K;try simp only [thenA,])
      exact⟨(),hI,(by simp [sle,vle,sget]),(by simp [ble,bget,])⟩
    ·rw [h4] at hst
     (refine AWp.seqR [0,1,2,3,4,5,42,47,61] [] (by decide +kernel) fun K hK=>?_;simp -implicitDefEqProofs only [EV,Nat.reduceAdd,Nat.reduceEqDiff,Nat.reduceLeDiff,reduceCtorEq,TF3,TF9,TF25,TF28,h1,h2];refine⟨_,.inl ⟨_,rfl,hsm,rfl⟩,?_⟩;(try simp -implicitDefEqProofs only [EV,Nat.reduceAdd,Nat.reduceEqDiff,reduceCtorEq,TF23,TF28,]);refine⟨_,.inl ⟨_,rfl,hst,rfl⟩,?_⟩;(try simp -implicitDefEqProofs only [EV,Nat.reduceEqDiff,reduceCtorEq,]);refine hK _ _ ?_;clear hK K)
     refine AWp.takeIfK rfl ?_
     (refine AWp.seqR [0,1,2,3,4,5,42,47,61] [] (by decide +kernel) fun K hK=>?_;simp -implicitDefEqProofs only [EV,Nat.reduceEqDiff,reduceCtorEq,];refine hK _ _ ?_;clear hK K)
     simp only [h1,h2,h3,h4,decide_true,Bool.true_and,Bool.false_and]
     exact AWp.ret ⟨_,by rw [Tryz.results20];rfl,rfl⟩
   ·rw [h3] at hsm
    (refine AWp.seqR [0,1,2,3,4,5,42,47,61] [] (by decide +kernel) fun K hK=>?_;simp -implicitDefEqProofs only [EV,Nat.reduceAdd,Nat.reduceEqDiff,Nat.reduceLeDiff,reduceCtorEq,TF3,TF9,TF25,TF28,h1,h2];refine⟨_,.inl ⟨_,rfl,hsm,rfl⟩,?_⟩;(try simp -implicitDefEqProofs only [EV,Nat.reduceEqDiff,reduceCtorEq,]);refine hK _ _ ?_;clear hK K)
    refine AWp.takeIfK rfl ?_
    (refine AWp.seqR [0,1,2,3,4,5,42,47,61] [] (by decide +kernel) fun K hK=>?_;simp -implicitDefEqProofs only [EV,Nat.reduceEqDiff,reduceCtorEq,];refine hK _ _ ?_;clear hK K)
    simp only [h1,h2,h3,decide_true,Bool.true_and,Bool.false_and]
    exact AWp.ret ⟨_,by rw [Tryz.results20];rfl,rfl⟩
  ·(refine AWp.seqR [0,1,2,3,4,5,42,47,61] [] (by decide +kernel) fun K hK=>?_;simp -implicitDefEqProofs only [EV,Nat.reduceEqDiff,reduceCtorEq,TF3,TF9,TF28,h1,h2];refine hK _ _ ?_;clear hK K)
   refine AWp.takeIfK rfl ?_
   (refine AWp.seqR [0,1,2,3,4,5,42,47,61] [] (by decide +kernel) fun K hK=>?_;simp -implicitDefEqProofs only [EV,Nat.reduceEqDiff,reduceCtorEq,];refine hK _ _ ?_;clear hK K)
   simp only [h1,h2,decide_true,decide_false,Bool.true_and,Bool.false_and]
   exact AWp.ret ⟨_,by rw [Tryz.results20];rfl,rfl⟩
 ·(refine AWp.seqR [0,1,2,3,4,5,42,47,61] [] (by decide +kernel) fun K hK=>?_;simp -implicitDefEqProofs only [EV,Nat.reduceEqDiff,reduceCtorEq,TF3,TF28,h1];refine hK _ _ ?_;clear hK K)
  refine AWp.takeIfK rfl ?_
  (refine AWp.seqR [0,1,2,3,4,5,42,47,61] [] (by decide +kernel) fun K hK=>?_;simp -implicitDefEqProofs only [EV,Nat.reduceEqDiff,reduceCtorEq,];refine hK _ _ ?_;clear hK K)
  simp only [h1,decide_false,Bool.false_and]
  exact AWp.ret ⟨_,by rw [Tryz.results20];rfl,rfl⟩
end Go.Abs
namespace Go.Abs
set_option linter.unusedSimpArgs false
set_option linter.unusedVariables false
open Go Go.Proofs
set_option maxRecDepth 100000
set_option maxHeartbeats 1000000
def findV (env:List Formal)(t:Ty):Int:=if t.args.length=0 then idxF (fun f=>decide (f.name=t.name)) env else -1
theorem ok_RefFind (env:List Formal)(t:Ty)(hl:env.length≤sm):CallOK Tryz.prog 47 [.d (.slice (foR env)),tyV t] (intV (findV env t)):=by
 unfold findV
 (refine CallOK.of_body Tryz.func47 rfl (by decide) (by rw [Tryz.ntmps47];simp) ?_;rw [Tryz.ntmps47])
 (refine AWp.seqR [0,1,3,4,5,15,25] [] (by decide +kernel) fun K hK=>?_;simp -implicitDefEqProofs only [EV,Nat.reduceAdd,Nat.reduceEqDiff,Nat.reduceLeDiff,reduceCtorEq,];refine hK _ _ ?_;clear hK K)
 refine AWp.seqK fun K1 hK1=>?_
 (refine AWp.seqR [0,1,3,4,5,15,25] [] (by decide +kernel) fun K hK=>?_;simp -implicitDefEqProofs only [EV,Nat.reduceEqDiff,reduceCtorEq,];refine hK _ _ ?_;clear hK K)
 have fin:∀ sl bx,(if t.args.length=0 then idxF (fun f=>decide (f.name=t.name)) env else -1) = -1→K1 sl bx:=by
  intro sl bx h
  refine hK1 _ _ ?_
  (refine AWp.seqR [0,1,3,4,5,15,25] [] (by decide +kernel) fun K hK=>?_;simp -implicitDefEqProofs only [EV,Nat.reduceEqDiff,reduceCtorEq,Int.reduceNeg,];refine hK _ _ ?_;clear hK K)
  rw [h]
  exact AWp.ret ⟨_,by rw [Tryz.results47];rfl,rfl⟩
 by_cases ha:t.args.length=0
 ·have ha':(t.args.length:Int)=0:=by omega
  refine AWp.block (AWp.forIdx env (X:=Unit) (fun j _=>[(0,.d (.slice (foR env))),(3,.box 3 0),(5,intV j)]) (fun _ _=>[(3,.cells [.d (.str t.name),tysV t.args,intV t.pos])])
   (fun j _=>∀ y,y∈env.take j→(fun f:Formal=>decide (f.name=t.name)) y=false) () (by simp) (by simp [sle,vle,sget]) (by simp [ble,bget,]) ?_ ?_)
  ·intro _ hI
   refine AWp.seqK fun K2 hK2=>?_
   (refine AWp.seqR [0,1,3,4,5,15,25] [] (by decide +kernel) fun K hK=>?_;simp -implicitDefEqProofs only [EV,Nat.reduceEqDiff,reduceCtorEq,TF46,Int.lt_irrefl];refine hK _ _ ?_;clear hK K)
   refine AWp.stopK rfl ?_
   simp only [thenA,blockA,if_true]
   rw [List.take_length] at hI
   exact fin _ _ (by rw [if_pos ha,idxF_none hI])
  ·intro j _ d hd hmem hdrop htake hlt hI
   refine AWp.seqK fun K2 hK2=>?_
   (refine AWp.seqR [0,1,3,4,5,15,25] [] (by decide +kernel) fun K hK=>?_;simp -implicitDefEqProofs only [EV,Nat.reduceEqDiff,reduceCtorEq,TF23,TF25,TF46,hlt,ha'];refine hK _ _ ?_;clear hK K)
   refine AWp.goOnK rfl hK2 ?_
   clear hK2 K2
   refine AWp.seqK fun K2 hK2=>?_
   refine AWp.block ?_
   (refine AWp.seqD [0,1,3,4,5,15,25] [] 8 mixed (by decide +kernel) (by decide +kernel) fun K hK=>?_;simp -implicitDefEqProofs only [EV,Nat.reduceEqDiff,reduceCtorEq,TF9,TF46,TF84];refine⟨by omega,_,foR_get hd,rfl,?_⟩;(try simp -implicitDefEqProofs only [EV,Nat.reduceEqDiff,reduceCtorEq,TF9,TF25,]);refine hK _ _ ?_;clear hK K)
   refine AWp.cond rfl (fun hc=>?_) (fun hc=>?_)
   ·(refine AWp.seqR [0,1,3,4,5,15,25] [] (by decide +kernel) fun K hK=>?_;simp -implicitDefEqProofs only [EV,Nat.reduceEqDiff,reduceCtorEq,];refine hK _ _ ?_;clear hK K)
    rw [if_pos ha,idxF_some hd hc hI]
    exact AWp.ret ⟨_,by rw [Tryz.results47];rfl,rfl⟩
   refine AWp.skip (hK2 _ _ ?_)
   clear hK2 K2
   (refine AWp.lastR [0,1,3,4,5,15,25] [] (by decide +kernel) fun K hK=>?_;simp -implicitDefEqProofs only [EV,Nat.reduceEqDiff,reduceCtorEq,];refine⟨by first | (unfold InR;omega) | (simp only [InR,sm] at *;omega),?_⟩;(try simp -implicitDefEqProofs only [EV,forall_const,implies_true,Nat.reduceAdd,Nat.reduceEqDiff,Nat.reduceBEq,Nat.reduceLeDiff,Nat.reduceSub,Nat.reduceMul,Int.reduceEq,Int.reduceLT,Int.reduceLE,Int.reduceSub,Int.reduceAdd,Int.reduceToNat,reduceCtorEq,Int.reduceNeg,TF3,TF4,TF9,TF23,TF25,TF46,TF84]);refine hK _ _ ?_;clear hK K;try simp only [thenA,])
   refine⟨(),?_,(by simp [sle,vle,sget]),(by simp [ble,bget,])⟩
   rw [htake]
   intro y hy
   rcases List.mem_append.1 hy with hy | hy
   ·exact hI y hy
   ·simp only [List.mem_cons,List.not_mem_nil,or_false] at hy
    rw [hy];exact hc
 ·have ha':¬ (t.args.length:Int)=0:=by omega
  refine AWp.block (AWp.forIdx ([]:List Nat) (X:=Unit) (fun j _=>[(0,.d (.slice (foR env))),(3,.box 3 0),(5,intV 0)]) (fun _ _=>[(3,.cells [.d (.str t.name),tysV t.args,intV t.pos])])
   (fun j _=>True) () trivial (by simp [sle,vle,sget]) (by simp [ble,bget,]) ?_ ?_)
  ·intro _ hI
   refine AWp.seqK fun K2 hK2=>?_
   by_cases he:(0:Int) < (env.length:Int)
   ·(refine AWp.seqR [0,1,3,4,5,15,25] [] (by decide +kernel) fun K hK=>?_;simp -implicitDefEqProofs only [EV,Nat.reduceEqDiff,reduceCtorEq,TF23,TF25,TF46,ha',he];refine hK _ _ ?_;clear hK K)
    refine AWp.stopK rfl ?_
    simp only [thenA,blockA,if_true]
    exact fin _ _ (by rw [if_neg ha])
   ·(refine AWp.seqR [0,1,3,4,5,15,25] [] (by decide +kernel) fun K hK=>?_;simp -implicitDefEqProofs only [EV,Nat.reduceEqDiff,reduceCtorEq,TF46,he];refine hK _ _ ?_;clear hK K)
    refine AWp.stopK rfl ?_
    simp only [thenA,blockA,if_true]
    exact fin _ _ (by rw [if_neg ha])
  ·intro j _ d hd
   simp at hd
theorem ok_BoundC (t:Ty)(x:Formal):CallOK Tryz.prog 130 [foV x,.dptr (tyC t) 0] (boolV (decide (x.name=t.name))):=by
 (refine CallOK.of_body Tryz.func130 rfl (by decide) (by rw [Tryz.ntmps130];simp) ?_;rw [Tryz.ntmps130])
 (refine AWp.seqR [0,1,2,3] [] (by decide +kernel) fun K hK=>?_;simp -implicitDefEqProofs only [EV,Nat.reduceAdd,Nat.reduceEqDiff,Nat.reduceLeDiff,reduceCtorEq,];refine hK _ _ ?_;clear hK K)
 (refine AWp.seqR [0,1,2,3] [] (by decide +kernel) fun K hK=>?_;simp -implicitDefEqProofs only [EV,Nat.reduceEqDiff,reduceCtorEq,TF9,TF25,TF84];refine hK _ _ ?_;clear hK K)
 exact AWp.ret ⟨_,by rw [Tryz.results130];rfl,rfl⟩
def boundV (env:List Formal)(t:Ty):Option Ty:=if findV env t < 0 then none else (env[(findV env t).toNat]?).map (·.bound)
def bndV:Option Ty→SV
 | some b=>.tuple [tyV b,boolV true]
 | none=>.tuple [tyV (.mk [] [] 0),boolV false]
theorem findV_get {env:List Formal} {t:Ty} (h:¬ findV env t < 0):∃ f,env[(findV env t).toNat]? = some f∧(findV env t).toNat < env.length∧t.args.length=0:=by
 unfold findV idxF at h ⊢
 by_cases ha:t.args.length=0
 ·simp only [if_pos ha] at h ⊢
  cases hf:env.findIdx? (fun f=>decide (f.name=t.name)) with
  | none=>rw [hf] at h;simp at h
  | some i =>
   have:=(List.findIdx?_eq_some_iff_getElem.1 hf).1
   simp only [Int.toNat_natCast]
   exact⟨env[i],List.getElem?_eq_getElem this,this,ha⟩
 ·simp only [if_neg ha] at h;omega
theorem ok_Bound (env:List Formal)(t:Ty)(hl:env.length≤sm)(hs:∀ f,f∈env→f.Sm):CallOK Tryz.prog 77 [.d (.slice (foR env)),tyV t] (bndV (boundV env t)):=by
 have hix:=ok_IndexFuncF 130 [.dptr (tyC t) 0] (fun x=>rfl) (fun f=>decide (f.name=t.name)) env hl (fun x _=>ok_BoundC t x)
 unfold boundV
 have hget:=@findV_get env t
 have hfv:t.args.length=0→findV env t=idxF (fun f=>decide (f.name=t.name)) env:=fun h=>by unfold findV;rw [if_pos h]
 have hfv2:¬ t.args.length=0→findV env t = -1:=fun h=>by unfold findV;rw [if_neg h]
 generalize findV env t=i at *
 generalize idxF (fun f:Formal=>decide (f.name=t.name)) env=i' at *
 (refine CallOK.of_body Tryz.func77 rfl (by decide) (by rw [Tryz.ntmps77];simp) ?_;rw [Tryz.ntmps77])
 (refine AWp.seqR [0,1,3,4,5,6,7,19] [] (by decide +kernel) fun K hK=>?_;simp -implicitDefEqProofs only [EV,Nat.reduceAdd,Nat.reduceEqDiff,Nat.reduceBEq,Nat.reduceLeDiff,reduceCtorEq,TF25,];refine hK _ _ ?_;clear hK K)
 (refine AWp.seqR [0,1,3,4,5,6,7,19] [] (by decide +kernel) fun K hK=>?_;simp -implicitDefEqProofs only [EV,Nat.reduceEqDiff,reduceCtorEq,];refine hK _ _ ?_;clear hK K)
 refine AWp.freeze 3 rfl rfl ?_
 refine AWp.weaken (sl':=[(0,.d (.slice (foR env))),(3,.dptr (tyC t) 0),(4,.box 4 0),(6,.clo 130 [.dptr (tyC t) 0])]) (bx':=[(4,.cells [.d (.str []),.d .nil,.d (.int .i64 0)])])
  (by simp [subSl,SV.sub,SV.subL,sle,vle,sget,tyC]) (by simp [subBx,BoxC.sub,SV.subL,SV.sub,ble,bget,berase]) ?_
 (refine AWp.seqR [0,1,3,4,5,6,7,19] [] (by decide +kernel) fun K hK=>?_;simp -implicitDefEqProofs only [EV,Nat.reduceAdd,Nat.reduceEqDiff,reduceCtorEq,];refine⟨_,.inl ⟨_,rfl,hix,rfl⟩,?_⟩;(try simp -implicitDefEqProofs only [EV,]);refine hK _ _ ?_;clear hK K)
 refine AWp.seqK fun K1 hK1=>?_
 by_cases ha:t.args.length=0
 ·obtain rfl:=hfv ha
  have ha':¬ (0:Int) < (t.args.length:Int):=by omega
  (refine AWp.seqR [0,1,3,4,5,6,7,19] [] (by decide +kernel) fun K hK=>?_;simp -implicitDefEqProofs only [EV,Nat.reduceEqDiff,reduceCtorEq,TF23,TF25,ha'];refine hK _ _ ?_;clear hK K)
  refine AWp.ifRetK rfl hK1 (fun hc=>?_) (fun hc=>?_)
  ·(refine AWp.seqR [0,1,3,4,5,6,7,19] [] (by decide +kernel) fun K hK=>?_;simp -implicitDefEqProofs only [EV,Nat.reduceAdd,Nat.reduceEqDiff,reduceCtorEq,TF25,];refine hK _ _ ?_;clear hK K)
   rw [if_pos (by simpa using hc)]
   exact AWp.ret ⟨_,by rw [Tryz.results77];rfl,rfl⟩
  clear hK1 K1
  have hc':¬ i < 0:=by simpa using hc
  obtain⟨f,hf,hlt,_⟩:=hget hc'
  have hmem:=List.mem_of_getElem? hf
  rw [if_neg hc',hf]
  have h0:0≤i:=by omega
  (refine AWp.seqR [0,1,3,4,5,6,7,19] [] (by decide +kernel) fun K hK=>?_;simp -implicitDefEqProofs only [EV,Nat.reduceAdd,Nat.reduceEqDiff,reduceCtorEq,TF25,TF46,TF84];refine⟨by omega,_,foR_get hf,rfl,?_⟩;(try simp -implicitDefEqProofs only [EV,Nat.reduceAdd,Nat.reduceEqDiff,Nat.reduceLeDiff,reduceCtorEq,TF25,]);refine⟨_,.inl ⟨_,rfl,ok_Clone f.bound (hs f hmem).bound,rfl⟩,?_⟩;(try simp -implicitDefEqProofs only [EV,Nat.reduceAdd,Nat.reduceEqDiff,reduceCtorEq,]);refine hK _ _ ?_;clear hK K)
  exact AWp.ret ⟨_,by rw [Tryz.results77];rfl,rfl⟩
 ·have ha':(0:Int) < (t.args.length:Int):=by omega
  rw [hfv2 ha]
  (refine AWp.seqR [0,1,3,4,5,6,7,19] [] (by decide +kernel) fun K hK=>?_;simp -implicitDefEqProofs only [EV,Nat.reduceEqDiff,reduceCtorEq,TF23,TF25,ha'];refine hK _ _ ?_;clear hK K)
  refine AWp.takeIfK rfl ?_
  (refine AWp.seqR [0,1,3,4,5,6,7,19] [] (by decide +kernel) fun K hK=>?_;simp -implicitDefEqProofs only [EV,Nat.reduceAdd,Nat.reduceEqDiff,reduceCtorEq,TF25,];refine hK _ _ ?_;clear hK K)
  exact AWp.ret ⟨_,by rw [Tryz.results77];rfl,rfl⟩
end Go.Abs

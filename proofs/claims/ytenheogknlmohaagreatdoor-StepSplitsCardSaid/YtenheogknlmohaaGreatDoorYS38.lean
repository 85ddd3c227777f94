/- step: a call of a method -/
import Derived.Test.YtenheogknlmohaaGreatDoorYS37
import Derived.Test.YtenheogknlmohaaGreatDoorYAb9
namespace Go.Abs
set_option linter.unusedSimpArgs false
set_option linter.unusedVariables false
open Go Go.Proofs
set_option maxRecDepth 100000
set_option maxHeartbeats 1000000
theorem ok_call (p:Prog)(h:p.Sm)(e v:Ex)(he:e.Sm)(h0:e.kids[0]? = some v):CallOK Tryz.prog 98 [maV p,exV e] (resV (callE p e v)):=by
 have hv:=he.kids.2 v (List.mem_of_getElem? h0)
 have hm:=ok_TMethod p h v.type hv.type e.name he.name
 have hkl:=he.kids.1
 unfold callE
 cases hd:methD p v.type e.name with
 | none =>
  rw [hd] at hm
  simp only [Option.getD_none,Option.isSome_none] at hm ⊢
  (refine CallOK.of_body Tryz.func98 rfl (by decide) (by rw [Tryz.ntmps98];simp) ?_;rw [Tryz.ntmps98])
  (refine AWp.seqR [0,1,2,3,4,5,6,7,8,9,10,11,13,50,54,59,73,76,77,78,79] [] (by decide +kernel) fun K hK=>?_;simp -implicitDefEqProofs only [EV,Nat.reduceAdd,Nat.reduceEqDiff,Nat.reduceBEq,Nat.reduceLeDiff,reduceCtorEq,TF28,];refine hK _ _ ?_;clear hK K)
  (refine AWp.seqR [0,1,2,3,4,5,6,7,8,9,10,11,13,50,54,59,73,76,77,78,79] [] (by decide +kernel) fun K hK=>?_;simp -implicitDefEqProofs only [EV,Nat.reduceEqDiff,Int.reduceLE,Int.reduceToNat,reduceCtorEq,TF26,TF28,];refine⟨_,exR_get h0,rfl,?_⟩;(try simp -implicitDefEqProofs only [EV,Nat.reduceAdd,Nat.reduceEqDiff,Nat.reduceBEq,Nat.reduceLeDiff,reduceCtorEq,TF28,]);refine hK _ _ ?_;clear hK K)
  (refine AWp.seqR [0,1,2,3,4,5,6,7,8,9,10,11,13,50,54,59,73,76,77,78,79] [] (by decide +kernel) fun K hK=>?_;simp -implicitDefEqProofs only [EV,Nat.reduceAdd,Nat.reduceEqDiff,Nat.reduceLeDiff,reduceCtorEq,TF9,TF25,TF28,TF56,TF95];refine⟨_,.inl ⟨_,rfl,hm,rfl⟩,?_⟩;(try simp -implicitDefEqProofs only [EV,Nat.reduceAdd,Nat.reduceEqDiff,Nat.reduceBEq,Nat.reduceLeDiff,reduceCtorEq,TF80,]);refine hK _ _ ?_;clear hK K)
  refine AWp.seqK fun K1 hK1=>?_
  (refine AWp.seqR [0,1,2,3,4,5,6,7,8,9,10,11,13,50,54,59,73,76,77,78,79] [] (by decide +kernel) fun K hK=>?_;simp -implicitDefEqProofs only [EV,Nat.reduceEqDiff,reduceCtorEq,];refine hK _ _ ?_;clear hK K)
  refine AWp.takeIfK rfl ?_
  (refine AWp.seqR [0,1,2,3,4,5,6,7,8,9,10,11,13,50,54,59,73,76,77,78,79] [] (by decide +kernel) fun K hK=>?_;simp -implicitDefEqProofs only [EV,Nat.reduceAdd,Nat.reduceEqDiff,reduceCtorEq,TF28,];refine hK _ _ ?_;clear hK K)
  exact AWp.ret ⟨_,by rw [Tryz.results98];rfl,rfl⟩
 | some d =>
  rw [hd] at hm
  simp only [Option.getD_some,Option.isSome_some] at hm ⊢
  have hds:=h.decls.2 d (methD_mem hd)
  by_cases hl1:d.sig.formals.length=e.targs.length
  ·have hl1':(d.sig.formals.length:Int)=e.targs.length:=by omega
   by_cases hl2:d.sig.params.length+1=e.kids.length
   ·have hl2':(d.sig.params.length:Int)=e.kids.length - 1:=by omega
    rw [if_pos ⟨hl1,hl2⟩]
    (refine CallOK.of_body Tryz.func98 rfl (by decide) (by rw [Tryz.ntmps98];simp) ?_;rw [Tryz.ntmps98])
    (refine AWp.seqR [0,1,2,3,4,5,6,7,8,9,10,11,13,50,54,59,73,76,77,78,79] [] (by decide +kernel) fun K hK=>?_;simp -implicitDefEqProofs only [EV,Nat.reduceAdd,Nat.reduceEqDiff,Nat.reduceBEq,Nat.reduceLeDiff,reduceCtorEq,TF28,];refine hK _ _ ?_;clear hK K)
    (refine AWp.seqR [0,1,2,3,4,5,6,7,8,9,10,11,13,50,54,59,73,76,77,78,79] [] (by decide +kernel) fun K hK=>?_;simp -implicitDefEqProofs only [EV,Nat.reduceEqDiff,Int.reduceLE,Int.reduceToNat,reduceCtorEq,TF26,TF28,];refine⟨_,exR_get h0,rfl,?_⟩;(try simp -implicitDefEqProofs only [EV,Nat.reduceAdd,Nat.reduceEqDiff,Nat.reduceBEq,Nat.reduceLeDiff,reduceCtorEq,TF28,]);refine hK _ _ ?_;clear hK K)
    (refine AWp.seqR [0,1,2,3,4,5,6,7,8,9,10,11,13,50,54,59,73,76,77,78,79] [] (by decide +kernel) fun K hK=>?_;simp -implicitDefEqProofs only [EV,Nat.reduceAdd,Nat.reduceEqDiff,Nat.reduceLeDiff,reduceCtorEq,TF9,TF25,TF28,TF56,TF95];refine⟨_,.inl ⟨_,rfl,hm,rfl⟩,?_⟩;(try simp -implicitDefEqProofs only [EV,Nat.reduceAdd,Nat.reduceEqDiff,Nat.reduceBEq,Nat.reduceLeDiff,reduceCtorEq,TF80,]);refine hK _ _ ?_;clear hK K)
    refine AWp.seqK fun K1 hK1=>?_
    (refine AWp.seqR [0,1,2,3,4,5,6,7,8,9,10,11,13,50,54,59,73,76,77,78,79] [] (by decide +kernel) fun K hK=>?_;simp -implicitDefEqProofs only [EV,Nat.reduceAdd,Nat.reduceEqDiff,reduceCtorEq,TF23,TF26,TF28,TF46,TF47,TF78,TF80,hl1',hl2',TF46,TF23,TF47,TF26];refine⟨by first | (unfold InR;omega) | (simp only [InR,sm] at *;omega),?_⟩;(try simp -implicitDefEqProofs only [EV,forall_const,implies_true,Nat.reduceAdd,Nat.reduceEqDiff,Nat.reduceBEq,Nat.reduceLeDiff,Nat.reduceSub,Nat.reduceMul,Int.reduceEq,Int.reduceLT,Int.reduceLE,Int.reduceSub,Int.reduceAdd,Int.reduceToNat,reduceCtorEq,Int.reduceNeg,TF3,TF4,TF9,TF23,TF25,TF26,TF28,TF46,TF47,TF56,TF76,TF78,TF80,TF84,TF91,TF95,TF232,hl1',hl2',TF46,TF23,TF47,TF26]);refine hK _ _ ?_;clear hK K)
    refine AWp.skipIfK rfl hK1 ?_
    clear hK1 K1
    have hcl:=ok_CloneS d.vars hds.vars.1
    have hnm:=ok_Names d.sig.formals hds.sig.formals.1
    have hct:=ok_ConcatT [v.type.args,e.targs] (show 2≤sm by decide) (by simp only [List.map_cons,List.map_nil,List.sum_cons,List.sum_nil];have:=hv.type.len;have:=he.targs.1;omega)
    rw [show [v.type.args,e.targs].flatten=v.type.args++e.targs by simp] at hct
    have hargs:∀ u,u∈v.type.args++e.targs→u.Sm:=fun u hu=>(List.mem_append.1 hu).elim (hv.type.arg u) (he.targs.2 u)
    have hsub:=ok_ESubst (d.vars++fnames d.sig.formals) (v.type.args++e.targs) hargs d.body hds.body
    have hsm:=Ex.Sm.subst (vars:=d.vars++fnames d.sig.formals) hargs d.body hds.body
    unfold calledE
    generalize d.body.subst (d.vars++fnames d.sig.formals) (v.type.args++e.targs)=body at *
    have hrep:=ok_EReplace (d.recv::d.sig.params.map (·.name)) e.kids he.kids.2 body hsm
    rw [strsV,strR_append] at hsub
    have hvl:=hds.vars.1
    have hfl:=hds.sig.formals.1
    have hpl:=hds.sig.params.1
    have hfn:(fnames d.sig.formals).length=d.sig.formals.length:=by simp [fnames]
    rw [show d.sig.formals.map (fun f=>f.name)=fnames d.sig.formals from rfl] at hnm
    generalize fnames d.sig.formals=ns at *
    (refine AWp.seqDC [0,1,2,3,4,5,6,7,8,9,10,11,13,50,54,59,73,76,77,78,79] [54] 8 54 59 2 [2,7] [] (.acc 54) rfl mixed (by decide +kernel) (by decide +kernel) (by decide +kernel) (by decide) ⟨7,by decide,by decide,by decide,rfl⟩ (by simp) rfl fun K hK=>?_;simp -implicitDefEqProofs only [EV,Nat.reduceEqDiff,reduceCtorEq,TF76,TF80,];refine chV_step0 (dst:=some 54) (e:=7) (i1:=3) (f:=(.acc 54)) (ps:=[54]) rfl rfl rfl rfl rfl rfl ?_;(try simp -implicitDefEqProofs only [EV,Nat.reduceEqDiff,Nat.reduceBEq,Nat.reduceLeDiff,reduceCtorEq,]);refine⟨_,_,_,_,_,rfl,hcl,?_⟩;(try simp -implicitDefEqProofs only [EV,]);refine chK_ok rfl (by simp) ?_;(try simp -implicitDefEqProofs only [EV,Nat.reduceAdd,Nat.reduceEqDiff,reduceCtorEq,TF46,TF78,TF80,]);refine⟨_,.inl ⟨_,rfl,hnm,rfl⟩,?_⟩;(try simp -implicitDefEqProofs only [EV,forall_const,implies_true,Nat.reduceAdd,Nat.reduceEqDiff,Nat.reduceBEq,Nat.reduceLeDiff,Nat.reduceSub,Nat.reduceMul,Int.reduceEq,Int.reduceLT,Int.reduceLE,Int.reduceSub,Int.reduceAdd,Int.reduceToNat,reduceCtorEq,Int.reduceNeg,TF3,TF4,TF9,TF23,TF25,TF26,TF28,TF46,TF47,TF56,TF76,TF78,TF80,TF84,TF91,TF95,TF232]);refine chV_step1 (dst:=some 59) (e:=8) (i1:=8) (f:=(.acc 54)) (ps:=[54]) rfl rfl rfl rfl rfl rfl ?_;(try simp -implicitDefEqProofs only [EV,Nat.reduceEqDiff,Nat.reduceBEq,Nat.reduceLeDiff,reduceCtorEq,TF9,TF76,]);refine⟨strR_row _,by unfold lim sm at *;omega,?_⟩;(try simp -implicitDefEqProofs only [EV,forall_const,implies_true,Nat.reduceAdd,Nat.reduceEqDiff,Nat.reduceBEq,Nat.reduceLeDiff,Nat.reduceSub,Nat.reduceMul,Int.reduceEq,Int.reduceLT,Int.reduceLE,Int.reduceSub,Int.reduceAdd,Int.reduceToNat,reduceCtorEq,Int.reduceNeg,TF3,TF4,TF9,TF23,TF25,TF26,TF28,TF46,TF47,TF56,TF76,TF78,TF80,TF84,TF91,TF95,TF232]);refine chK_ok rfl (by simp) ?_;(try simp -implicitDefEqProofs only [EV,]);refine chV_end rfl ?_;(try simp -implicitDefEqProofs only [EV,Nat.reduceEqDiff,Nat.reduceBEq,reduceCtorEq,]);refine hK _ _ ?_;clear hK K)
    refine AWp.publish 54 rfl (AWp.weaken (sl':=[(3,.box 3 0),(4,.box 4 0),(6,.box 6 0),(7,.box 7 0),(9,.d (.slice (strR d.vars++strR ns)))]) (bx':=[(3,.cells (exS e)),(4,.cells [.d (.int .i64 0),.d (.str []),.d (.str []),.d .nil,.d (.int .i64 0),.d .nil,.d .nil,.d (.int .i64 0)]),(6,.cells (exS v)),(7,.cells ((deC d).map .d))])
     ⟨.inr (.inl rfl),.inr (.inl rfl),.inr (.inl rfl),.inr (.inl rfl),.inr (.inl rfl),trivial⟩ ⟨rfl,rfl,rfl,rfl,trivial⟩ ?_)
    (refine AWp.seqDL [0,1,2,3,4,5,6,7,8,9,10,11,13,50,54,59,73,76,77,78,79] [] 12 11 10 28 _ mixed (by decide +kernel) (by decide +kernel) ⟨by decide,⟨_,rfl,rfl,rfl,rfl⟩,by decide,(by first | exact TF28.2.2.1 | simp only [TF28])⟩ fun K hK=>?_;simp -implicitDefEqProofs only [EV,Nat.reduceAdd,Nat.reduceEqDiff,Nat.reduceBEq,Nat.reduceLeDiff,Nat.reduceMul,TF23,TF25,TF28,TF80,TF232];refine⟨_,.inl ⟨_,rfl,hct,rfl⟩,?_⟩;(try simp -implicitDefEqProofs only [EV,]);refine⟨_,.inl ⟨_,rfl,hsub,rfl⟩,?_⟩;(try simp -implicitDefEqProofs only [EV,Nat.reduceAdd,Nat.reduceEqDiff,reduceCtorEq,]);refine hK _ _ ?_;clear hK K)
    (refine AWp.seqR [0,1,2,3,4,5,6,7,8,9,10,11,13,50,54,59,73,76,77,78,79] [73] (by decide +kernel) fun K hK=>?_;simp -implicitDefEqProofs only [EV,Nat.reduceEqDiff,Nat.reduceBEq,Nat.reduceLeDiff,Nat.reduceMul,reduceCtorEq,TF9,TF76,TF80,];refine hK _ _ ?_;clear hK K)
    refine AWp.seqK fun K1 hK1=>?_
    (refine AWp.seqR [0,1,2,3,4,5,6,7,8,9,10,11,13,50,54,59,73,76,77,78,79] [] (by decide +kernel) fun K hK=>?_;simp -implicitDefEqProofs only [EV,Nat.reduceAdd,Nat.reduceEqDiff,reduceCtorEq,TF47,TF78,TF80,];refine hK _ _ ?_;clear hK K)
    refine AWp.block (AWp.forIdx d.sig.params (X:=Unit) (fun j _=>[(3,.box 3 0),(4,.box 4 0),(10,.box 10 0),(11,.acc 73),(76,.d (.slice (paR d.sig.params))),(77,intV d.sig.params.length),(78,intV j)])
     (fun j _=>[(3,.cells (exS e)),(4,.cells [.d (.int .i64 0),.d (.str []),.d (.str []),.d .nil,.d (.int .i64 0),.d .nil,.d .nil,.d (.int .i64 0)]),(10,.cells (exS body)),(73,.rows 1 (strR (d.recv::(d.sig.params.take j).map (·.name))))])
     (fun j _=>True) () trivial (by simp [sle,vle,sget]) (by simp [ble,bget,strR,exS]) ?_ ?_)
    ·intro _ _
     rw [List.take_length]
     (refine AWp.seqR [0,1,2,3,4,5,6,7,8,9,10,11,13,50,54,59,73,76,77,78,79] [] (by decide +kernel) fun K hK=>?_;simp -implicitDefEqProofs only [EV,Nat.reduceEqDiff,reduceCtorEq,Int.lt_irrefl];refine hK _ _ ?_;clear hK K)
     refine AWp.stop rfl ?_
     simp only [thenA,blockA,if_true]
     refine hK1 _ _ ?_
     refine AWp.publish 73 rfl (AWp.weaken (sl':=[(3,.box 3 0),(4,.box 4 0),(10,.box 10 0),(11,.d (.slice (strR (d.recv::d.sig.params.map (·.name)))))]) (bx':=[(3,.cells (exS e)),(4,.cells [.d (.int .i64 0),.d (.str []),.d (.str []),.d .nil,.d (.int .i64 0),.d .nil,.d .nil,.d (.int .i64 0)]),(10,.cells (exS body))])
      ⟨.inr (.inl rfl),.inr (.inl rfl),.inr (.inl rfl),.inr (.inl rfl),trivial⟩ ⟨rfl,rfl,rfl,trivial⟩ ?_)
     (refine AWp.seqR [0,1,2,3,4,5,6,7,8,9,10,11,13,50,54,59,73,76,77,78,79] [] (by decide +kernel) fun K hK=>?_;simp -implicitDefEqProofs only [EV,Nat.reduceAdd,Nat.reduceEqDiff,TF26,TF28,];refine⟨_,.inl ⟨_,rfl,hrep,rfl⟩,?_⟩;(try simp -implicitDefEqProofs only [EV,Nat.reduceAdd,Nat.reduceEqDiff,reduceCtorEq,]);refine hK _ _ ?_;clear hK K)
     exact AWp.ret ⟨_,by rw [Tryz.results98];rfl,rfl⟩
    ·intro j _ f hf hmem hdrop htake hlt _
     rw [htake]
     (refine AWp.seqR [0,1,2,3,4,5,6,7,8,9,10,11,13,50,54,59,73,76,77,78,79] [] (by decide +kernel) fun K hK=>?_;simp -implicitDefEqProofs only [EV,Nat.reduceEqDiff,reduceCtorEq,hlt];refine hK _ _ ?_;clear hK K)
     refine AWp.goOn rfl ?_
     refine AWp.seqK fun K2 hK2=>?_
     refine AWp.block ?_
     (refine AWp.seqR [0,1,2,3,4,5,6,7,8,9,10,11,13,50,54,59,73,76,77,78,79] [] (by decide +kernel) fun K hK=>?_;simp -implicitDefEqProofs only [EV,Nat.reduceEqDiff,reduceCtorEq,TF47,TF91,];refine⟨by omega,_,paR_get hf,rfl,?_⟩;(try simp -implicitDefEqProofs only [EV,Nat.reduceAdd,Nat.reduceEqDiff,Nat.reduceBEq,Nat.reduceLeDiff,reduceCtorEq,TF91,]);refine hK _ _ ?_;clear hK K)
     (refine AWp.lastR [0,1,2,3,4,5,6,7,8,9,10,11,13,50,54,59,73,76,77,78,79] [] (by decide +kernel) fun K hK=>?_;simp -implicitDefEqProofs only [EV,Nat.reduceEqDiff,Nat.reduceBEq,Nat.reduceLeDiff,Nat.reduceMul,reduceCtorEq,TF9,TF76,TF91,];refine⟨by simp,by simp only [List.length_map,List.length_take];unfold lim sm at *;omega,?_⟩;(try simp -implicitDefEqProofs only [EV,forall_const,implies_true,Nat.reduceAdd,Nat.reduceEqDiff,Nat.reduceBEq,Nat.reduceLeDiff,Nat.reduceSub,Nat.reduceMul,Int.reduceEq,Int.reduceLT,Int.reduceLE,Int.reduceSub,Int.reduceAdd,Int.reduceToNat,reduceCtorEq,Int.reduceNeg,TF3,TF4,TF9,TF23,TF25,TF26,TF28,TF46,TF47,TF56,TF76,TF78,TF80,TF84,TF91,TF95,TF232]);refine hK _ _ ?_;clear hK K;try simp only [thenA,blockA])
     refine hK2 _ _ ?_
     clear hK2 K2
     (refine AWp.lastR [0,1,2,3,4,5,6,7,8,9,10,11,13,50,54,59,73,76,77,78,79] [] (by decide +kernel) fun K hK=>?_;simp -implicitDefEqProofs only [EV,Nat.reduceEqDiff,reduceCtorEq,];refine⟨by first | (unfold InR;omega) | (simp only [InR,sm] at *;omega),?_⟩;(try simp -implicitDefEqProofs only [EV,forall_const,implies_true,Nat.reduceAdd,Nat.reduceEqDiff,Nat.reduceBEq,Nat.reduceLeDiff,Nat.reduceSub,Nat.reduceMul,Int.reduceEq,Int.reduceLT,Int.reduceLE,Int.reduceSub,Int.reduceAdd,Int.reduceToNat,reduceCtorEq,Int.reduceNeg,TF3,TF4,TF9,TF23,TF25,TF26,TF28,TF46,TF47,TF56,TF76,TF78,TF80,TF84,TF91,TF95,TF232]);refine hK _ _ ?_;clear hK K;try simp only [thenA,])
     exact⟨(),trivial,(by simp [sle,vle,sget]),by simp [ble,bget,strR,exS]⟩
   ·have hl2':¬ (d.sig.params.length:Int)=e.kids.length - 1:=by omega
    rw [if_neg (fun hh=>hl2 hh.2)]
    (refine CallOK.of_body Tryz.func98 rfl (by decide) (by rw [Tryz.ntmps98];simp) ?_;rw [Tryz.ntmps98])
    (refine AWp.seqR [0,1,2,3,4,5,6,7,8,9,10,11,13,50,54,59,73,76,77,78,79] [] (by decide +kernel) fun K hK=>?_;simp -implicitDefEqProofs only [EV,Nat.reduceAdd,Nat.reduceEqDiff,Nat.reduceBEq,Nat.reduceLeDiff,reduceCtorEq,TF28,];refine hK _ _ ?_;clear hK K)
    (refine AWp.seqR [0,1,2,3,4,5,6,7,8,9,10,11,13,50,54,59,73,76,77,78,79] [] (by decide +kernel) fun K hK=>?_;simp -implicitDefEqProofs only [EV,Nat.reduceEqDiff,Int.reduceLE,Int.reduceToNat,reduceCtorEq,TF26,TF28,];refine⟨_,exR_get h0,rfl,?_⟩;(try simp -implicitDefEqProofs only [EV,Nat.reduceAdd,Nat.reduceEqDiff,Nat.reduceBEq,Nat.reduceLeDiff,reduceCtorEq,TF28,]);refine hK _ _ ?_;clear hK K)
    (refine AWp.seqR [0,1,2,3,4,5,6,7,8,9,10,11,13,50,54,59,73,76,77,78,79] [] (by decide +kernel) fun K hK=>?_;simp -implicitDefEqProofs only [EV,Nat.reduceAdd,Nat.reduceEqDiff,Nat.reduceLeDiff,reduceCtorEq,TF9,TF25,TF28,TF56,TF95];refine⟨_,.inl ⟨_,rfl,hm,rfl⟩,?_⟩;(try simp -implicitDefEqProofs only [EV,Nat.reduceAdd,Nat.reduceEqDiff,Nat.reduceBEq,Nat.reduceLeDiff,reduceCtorEq,TF80,]);refine hK _ _ ?_;clear hK K)
    refine AWp.seqK fun K1 hK1=>?_
    (refine AWp.seqR [0,1,2,3,4,5,6,7,8,9,10,11,13,50,54,59,73,76,77,78,79] [] (by decide +kernel) fun K hK=>?_;simp -implicitDefEqProofs only [EV,Nat.reduceAdd,Nat.reduceEqDiff,reduceCtorEq,TF23,TF26,TF28,TF46,TF47,TF78,TF80,hl1',hl2',TF46,TF23,TF47,TF26];refine⟨by first | (unfold InR;omega) | (simp only [InR,sm] at *;omega),?_⟩;(try simp -implicitDefEqProofs only [EV,forall_const,implies_true,Nat.reduceAdd,Nat.reduceEqDiff,Nat.reduceBEq,Nat.reduceLeDiff,Nat.reduceSub,Nat.reduceMul,Int.reduceEq,Int.reduceLT,Int.reduceLE,Int.reduceSub,Int.reduceAdd,Int.reduceToNat,reduceCtorEq,Int.reduceNeg,TF3,TF4,TF9,TF23,TF25,TF26,TF28,TF46,TF47,TF56,TF76,TF78,TF80,TF84,TF91,TF95,TF232,hl1',hl2',TF46,TF23,TF47,TF26]);refine hK _ _ ?_;clear hK K)
    refine AWp.takeIfK rfl ?_
    (refine AWp.seqR [0,1,2,3,4,5,6,7,8,9,10,11,13,50,54,59,73,76,77,78,79] [] (by decide +kernel) fun K hK=>?_;simp -implicitDefEqProofs only [EV,Nat.reduceAdd,Nat.reduceEqDiff,reduceCtorEq,TF28,];refine hK _ _ ?_;clear hK K)
    exact AWp.ret ⟨_,by rw [Tryz.results98];rfl,rfl⟩
  ·have hl1':¬ (d.sig.formals.length:Int)=e.targs.length:=by omega
   rw [if_neg (fun hh=>hl1 hh.1)]
   (refine CallOK.of_body Tryz.func98 rfl (by decide) (by rw [Tryz.ntmps98];simp) ?_;rw [Tryz.ntmps98])
   (refine AWp.seqR [0,1,2,3,4,5,6,7,8,9,10,11,13,50,54,59,73,76,77,78,79] [] (by decide +kernel) fun K hK=>?_;simp -implicitDefEqProofs only [EV,Nat.reduceAdd,Nat.reduceEqDiff,Nat.reduceBEq,Nat.reduceLeDiff,reduceCtorEq,TF28,];refine hK _ _ ?_;clear hK K)
   (refine AWp.seqR [0,1,2,3,4,5,6,7,8,9,10,11,13,50,54,59,73,76,77,78,79] [] (by decide +kernel) fun K hK=>?_;simp -implicitDefEqProofs only [EV,Nat.reduceEqDiff,Int.reduceLE,Int.reduceToNat,reduceCtorEq,TF26,TF28,];refine⟨_,exR_get h0,rfl,?_⟩;(try simp -implicitDefEqProofs only [EV,Nat.reduceAdd,Nat.reduceEqDiff,Nat.reduceBEq,Nat.reduceLeDiff,reduceCtorEq,TF28,]);refine hK _ _ ?_;clear hK K)
   (refine AWp.seqR [0,1,2,3,4,5,6,7,8,9,10,11,13,50,54,59,73,76,77,78,79] [] (by decide +kernel) fun K hK=>?_;simp -implicitDefEqProofs only [EV,Nat.reduceAdd,Nat.reduceEqDiff,Nat.reduceLeDiff,reduceCtorEq,TF9,TF25,TF28,TF56,TF95];refine⟨_,.inl ⟨_,rfl,hm,rfl⟩,?_⟩;(try simp -implicitDefEqProofs only [EV,Nat.reduceAdd,Nat.reduceEqDiff,Nat.reduceBEq,Nat.reduceLeDiff,reduceCtorEq,TF80,]);refine hK _ _ ?_;clear hK K)
   refine AWp.seqK fun K1 hK1=>?_
   (refine AWp.seqR [0,1,2,3,4,5,6,7,8,9,10,11,13,50,54,59,73,76,77,78,79] [] (by decide +kernel) fun K hK=>?_;simp -implicitDefEqProofs only [EV,Nat.reduceAdd,Nat.reduceEqDiff,reduceCtorEq,TF23,TF28,TF46,TF78,TF80,hl1',TF46,TF23];refine hK _ _ ?_;clear hK K)
   refine AWp.takeIfK rfl ?_
   (refine AWp.seqR [0,1,2,3,4,5,6,7,8,9,10,11,13,50,54,59,73,76,77,78,79] [] (by decide +kernel) fun K hK=>?_;simp -implicitDefEqProofs only [EV,Nat.reduceAdd,Nat.reduceEqDiff,reduceCtorEq,TF28,];refine hK _ _ ?_;clear hK K)
   exact AWp.ret ⟨_,by rw [Tryz.results98];rfl,rfl⟩
end Go.Abs

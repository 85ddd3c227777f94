/- signatures that are alike: decl.SameSig, bind.Alike, castingsref06.Sig, castingsref10.Alike; FewEnv, FewAll -/
import Derived.Test.YtenheogknlmohaaGreatDoorYSA
import Derived.Test.YtenheogknlmohaaGreatDoorYS14
namespace Go.Abs
set_option linter.unusedSimpArgs false
set_option linter.unusedVariables false
open Go Go.Proofs
set_option maxRecDepth 100000
set_option maxHeartbeats 1000000
def eqL {α:Type} (p:α→α→Bool):List α→List α→Bool
 | [],[]=>true
 | x::xs,y::ys=>p x y && eqL p xs ys
 | _,_=>false
theorem eqL_len {α:Type} {p:α→α→Bool}:∀ {l m:List α},eqL p l m=true→l.length=m.length
 | [],[],_=>rfl
 | x::xs,y::ys,h=>by
  rw [eqL,Bool.and_eq_true] at h
  simp [eqL_len h.2]
 | [],_::_,h=>by simp [eqL] at h
 | _::_,[],h=>by simp [eqL] at h
def sameFo (a b:Formal):Bool:=decide (a.name=b.name) && sameT a.bound b.bound
def samePa (a b:Param):Bool:=decide (a.name=b.name) && sameT a.type b.type
def sameSi (a b:Sig):Bool:=decide (a.name=b.name) && eqL sameFo a.formals b.formals && eqL samePa a.params b.params && sameT a.result b.result
theorem Ty.Sm.subst {vars:List Str} {args:List Ty} (ha:∀ u,u∈args→u.Sm):∀ t:Ty,t.Sm→(t.subst vars args).Sm:=by
 intro t
 induction t using Ty.induct with
 | h t ih =>
 intro h
 rw [subst_eq]
 split
 ·rename_i hc
  have hlt:(indexS t.name vars 0).toNat < args.length:=by omega
  rw [List.getElem?_eq_getElem hlt,Option.getD_some]
  have:=ha _ (List.getElem_mem hlt)
  exact .mk _ _ _ this.name this.len this.arg
 ·refine .mk _ _ _ h.name (by rw [List.length_map];exact h.len) fun u hu=>?_
  obtain⟨x,hx,rfl⟩:=List.mem_map.1 hu
  exact ih x hx (h.arg x hx)
theorem mem_mapIdx {α β:Type} {f:Nat→α→β} {l:List α} {y:β} (h:y∈l.mapIdx f):∃ i x,l[i]? = some x∧i < l.length∧y=f i x:=by
 obtain⟨i,hi⟩:=List.getElem?_of_mem h
 rw [List.getElem?_mapIdx,Option.map_eq_some_iff] at hi
 obtain⟨x,hx,rfl⟩:=hi
 exact⟨i,x,hx,(List.getElem?_eq_some_iff.1 hx).1,rfl⟩
theorem Sig.Sm.canon {s:Sig} (h:s.Sm):s.canon.Sm:=by
 have hs:=localTs_Sm _ h.formals.1
 refine⟨h.name,⟨by simp only [Sig.canon,canF_len];exact h.formals.1,fun f hf=>?_⟩,⟨by simp only [Sig.canon,canP_len];exact h.params.1,fun f hf=>?_⟩,Ty.Sm.subst hs _ h.result⟩
 ·obtain⟨i,x,hx,hi,rfl⟩:=mem_mapIdx hf
  have hm:=h.formals.2 x (List.mem_of_getElem? hx)
  refine⟨?_,Ty.Sm.subst hs _ hm.bound⟩
  simp only [hi,if_true]
  exact Nat.le_trans (localS_len i (by have:=h.formals.1;omega)) (by decide)
 ·obtain⟨i,x,hx,hi,rfl⟩:=mem_mapIdx hf
  have hm:=h.params.2 x (List.mem_of_getElem? hx)
  refine⟨?_,Ty.Sm.subst hs _ hm.type⟩
  simp only [hi,if_true]
  decide
theorem Sig.Sm.subst {vars:List Str} {args:List Ty} (ha:∀ u,u∈args→u.Sm) {s:Sig} (h:s.Sm):(s.subst vars args).Sm:=by
 refine⟨h.name,⟨by simp only [Sig.subst,List.length_map];exact h.formals.1,fun f hf=>?_⟩,⟨by simp only [Sig.subst,List.length_map];exact h.params.1,fun f hf=>?_⟩,Ty.Sm.subst ha _ h.result⟩
 ·obtain⟨x,hx,rfl⟩:=List.mem_map.1 hf
  exact⟨(h.formals.2 x hx).name,Ty.Sm.subst ha _ (h.formals.2 x hx).bound⟩
 ·obtain⟨x,hx,rfl⟩:=List.mem_map.1 hf
  exact⟨(h.params.2 x hx).name,Ty.Sm.subst ha _ (h.params.2 x hx).type⟩
theorem ok_sameFormal (a b:Formal)(h:a.Sm):CallOK Tryz.prog 227 [foV a,foV b] (boolV (sameFo a b)):=by
 have hs:=ok_TSame a.bound b.bound h.bound
 unfold sameFo
 (refine CallOK.of_body Tryz.func227 rfl (by decide) (by rw [Tryz.ntmps227];simp) ?_;rw [Tryz.ntmps227])
 (refine AWp.seqR [0,1,2,3,4] [] (by decide +kernel) fun K hK=>?_;simp -implicitDefEqProofs only [EV,Nat.reduceAdd,Nat.reduceEqDiff,Nat.reduceBEq,Nat.reduceLeDiff,reduceCtorEq,];refine hK _ _ ?_;clear hK K)
 by_cases hn:a.name=b.name
 ·(refine AWp.seqR [0,1,2,3,4] [] (by decide +kernel) fun K hK=>?_;simp -implicitDefEqProofs only [EV,Nat.reduceAdd,Nat.reduceEqDiff,Nat.reduceLeDiff,reduceCtorEq,TF9,TF25,TF84,hn];refine⟨_,.inl ⟨_,rfl,hs,rfl⟩,?_⟩;(try simp -implicitDefEqProofs only [EV,]);refine hK _ _ ?_;clear hK K)
  rw [decide_eq_true hn,Bool.true_and]
  exact AWp.ret ⟨_,by rw [Tryz.results227];rfl,rfl⟩
 ·(refine AWp.seqR [0,1,2,3,4] [] (by decide +kernel) fun K hK=>?_;simp -implicitDefEqProofs only [EV,Nat.reduceEqDiff,reduceCtorEq,TF9,TF84,hn];refine hK _ _ ?_;clear hK K)
  rw [decide_eq_false hn,Bool.false_and]
  exact AWp.ret ⟨_,by rw [Tryz.results227];rfl,rfl⟩
theorem ok_sameParam (a b:Param)(h:a.Sm):CallOK Tryz.prog 229 [paV a,paV b] (boolV (samePa a b)):=by
 have hs:=ok_TSame a.type b.type h.type
 unfold samePa
 (refine CallOK.of_body Tryz.func229 rfl (by decide) (by rw [Tryz.ntmps229];simp) ?_;rw [Tryz.ntmps229])
 (refine AWp.seqR [0,1,2,3,4] [] (by decide +kernel) fun K hK=>?_;simp -implicitDefEqProofs only [EV,Nat.reduceAdd,Nat.reduceEqDiff,Nat.reduceBEq,Nat.reduceLeDiff,reduceCtorEq,];refine hK _ _ ?_;clear hK K)
 by_cases hn:a.name=b.name
 ·(refine AWp.seqR [0,1,2,3,4] [] (by decide +kernel) fun K hK=>?_;simp -implicitDefEqProofs only [EV,Nat.reduceAdd,Nat.reduceEqDiff,Nat.reduceLeDiff,reduceCtorEq,TF9,TF25,TF91,hn];refine⟨_,.inl ⟨_,rfl,hs,rfl⟩,?_⟩;(try simp -implicitDefEqProofs only [EV,]);refine hK _ _ ?_;clear hK K)
  rw [decide_eq_true hn,Bool.true_and]
  exact AWp.ret ⟨_,by rw [Tryz.results229];rfl,rfl⟩
 ·(refine AWp.seqR [0,1,2,3,4] [] (by decide +kernel) fun K hK=>?_;simp -implicitDefEqProofs only [EV,Nat.reduceEqDiff,reduceCtorEq,TF9,TF91,hn];refine hK _ _ ?_;clear hK K)
  rw [decide_eq_false hn,Bool.false_and]
  exact AWp.ret ⟨_,by rw [Tryz.results229];rfl,rfl⟩
theorem ok_EqualFuncF (f:FuncId)(p:Formal→Formal→Bool)(l m:List Formal)(hl:l.length≤sm)(hf:∀ x,x∈l→∀ y,CallOK Tryz.prog f [foV x,foV y] (boolV (p x y))) :
  CallOK Tryz.prog 226 [.d (.slice (foR l)),.d (.slice (foR m)),.clo f []] (boolV (eqL p l m)):=by
 (refine CallOK.of_body Tryz.func226 rfl (by decide) (by rw [Tryz.ntmps226];simp) ?_;rw [Tryz.ntmps226])
 (refine AWp.seqR [0,1,2,6,7,8,9,14,15,16,17,18,30] [] (by decide +kernel) fun K hK=>?_;simp -implicitDefEqProofs only [EV,Nat.reduceAdd,Nat.reduceEqDiff,reduceCtorEq,];refine hK _ _ ?_;clear hK K)
 refine AWp.seqK fun K1 hK1=>?_
 (refine AWp.seqR [0,1,2,6,7,8,9,14,15,16,17,18,30] [] (by decide +kernel) fun K hK=>?_;simp -implicitDefEqProofs only [EV,Nat.reduceEqDiff,reduceCtorEq,TF46];refine hK _ _ ?_;clear hK K)
 refine AWp.ifRetK rfl hK1 (fun hc=>?_) (fun hc=>?_)
 ·(refine AWp.seqR [0,1,2,6,7,8,9,14,15,16,17,18,30] [] (by decide +kernel) fun K hK=>?_;simp -implicitDefEqProofs only [EV,Nat.reduceEqDiff,reduceCtorEq,];refine hK _ _ ?_;clear hK K)
  have:eqL p l m=false:=by
   cases h:eqL p l m with
   | false=>rfl
   | true=>have:=eqL_len h;simp [this] at hc
  rw [this]
  exact AWp.ret ⟨_,by rw [Tryz.results226];rfl,rfl⟩
 clear hK1 K1
 have hlm:l.length=m.length:=by
  have:(l.length:Int)=m.length:=by simpa using hc
  omega
 refine AWp.seqK fun K1 hK1=>?_
 (refine AWp.seqR [0,1,2,6,7,8,9,14,15,16,17,18,30] [] (by decide +kernel) fun K hK=>?_;simp -implicitDefEqProofs only [EV,Nat.reduceEqDiff,reduceCtorEq,TF46];refine hK _ _ ?_;clear hK K)
 refine AWp.block (AWp.forIdx l (X:=Unit) (fun j _=>[(1,.d (.slice (foR m))),(2,.clo f []),(15,.d (.slice (foR l))),(16,intV l.length),(17,intV j)]) (fun _ _=>[])
  (fun j _=>eqL p (l.drop j) (m.drop j)=eqL p l m) () (by simp) (by simp [sle,vle,sget]) (by simp [ble,]) ?_ ?_)
 ·intro _ hI
  (refine AWp.seqR [0,1,2,6,7,8,9,14,15,16,17,18,30] [] (by decide +kernel) fun K hK=>?_;simp -implicitDefEqProofs only [EV,Nat.reduceEqDiff,reduceCtorEq,Int.lt_irrefl];refine hK _ _ ?_;clear hK K)
  refine AWp.stop rfl ?_
  simp only [thenA,blockA,if_true]
  refine hK1 _ _ ?_
  (refine AWp.seqR [0,1,2,6,7,8,9,14,15,16,17,18,30] [] (by decide +kernel) fun K hK=>?_;simp -implicitDefEqProofs only [EV,Nat.reduceEqDiff,reduceCtorEq,];refine hK _ _ ?_;clear hK K)
  rw [List.drop_length,hlm,List.drop_length] at hI
  rw [← hI]
  exact AWp.ret ⟨_,by rw [Tryz.results226];rfl,rfl⟩
 ·intro j _ d hd hmem hdrop htake hlt hI
  obtain⟨e,he,hdm⟩:=drop_get (l:=m) (j:=j) (by omega)
  rw [hdrop,hdm,eqL] at hI
  (refine AWp.seqR [0,1,2,6,7,8,9,14,15,16,17,18,30] [] (by decide +kernel) fun K hK=>?_;simp -implicitDefEqProofs only [EV,Nat.reduceEqDiff,reduceCtorEq,hlt];refine hK _ _ ?_;clear hK K)
  refine AWp.goOn rfl ?_
  refine AWp.seqK fun K2 hK2=>?_
  refine AWp.block ?_
  (refine AWp.seqR [0,1,2,6,7,8,9,14,15,16,17,18,30] [] (by decide +kernel) fun K hK=>?_;simp -implicitDefEqProofs only [EV,Nat.reduceEqDiff,reduceCtorEq,TF46,TF84];refine⟨by omega,_,foR_get hd,rfl,?_⟩;(try simp -implicitDefEqProofs only [EV,Nat.reduceAdd,Nat.reduceEqDiff,Nat.reduceLeDiff,reduceCtorEq,TF84]);refine hK _ _ ?_;clear hK K)
  (refine AWp.seqR [0,1,2,6,7,8,9,14,15,16,17,18,30] [] (by decide +kernel) fun K hK=>?_;simp -implicitDefEqProofs only [EV,Nat.reduceEqDiff,reduceCtorEq,TF46,TF84];refine⟨by omega,_,foR_get he,rfl,?_⟩;(try simp -implicitDefEqProofs only [EV,Nat.reduceAdd,Nat.reduceEqDiff,Nat.reduceBEq,Nat.reduceLeDiff,reduceCtorEq,TF84]);refine hK _ _ ?_;clear hK K)
  (refine AWp.seqR [0,1,2,6,7,8,9,14,15,16,17,18,30] [] (by decide +kernel) fun K hK=>?_;simp -implicitDefEqProofs only [EV,Nat.reduceAdd,Nat.reduceEqDiff,reduceCtorEq,TF84];refine⟨_,.inl ⟨_,rfl,hf d hmem e,rfl⟩,?_⟩;(try simp -implicitDefEqProofs only [EV,Nat.reduceEqDiff,reduceCtorEq,]);refine hK _ _ ?_;clear hK K)
  refine AWp.cond rfl (fun hc=>?_) (fun hc=>?_)
  ·(refine AWp.seqR [0,1,2,6,7,8,9,14,15,16,17,18,30] [] (by decide +kernel) fun K hK=>?_;simp -implicitDefEqProofs only [EV,Nat.reduceEqDiff,reduceCtorEq,];refine hK _ _ ?_;clear hK K)
   simp only [Bool.not_eq_true'] at hc
   rw [hc,Bool.false_and] at hI
   rw [← hI]
   exact AWp.ret ⟨_,by rw [Tryz.results226];rfl,rfl⟩
  simp only [Bool.not_eq_false'] at hc
  rw [hc,Bool.true_and] at hI
  refine AWp.skip (hK2 _ _ ?_)
  clear hK2 K2
  (refine AWp.lastR [0,1,2,6,7,8,9,14,15,16,17,18,30] [] (by decide +kernel) fun K hK=>?_;simp -implicitDefEqProofs only [EV,Nat.reduceEqDiff,reduceCtorEq,];refine⟨by first | (unfold InR;omega) | (simp only [InR,sm] at *;omega),?_⟩;(try simp -implicitDefEqProofs only [EV,forall_const,implies_true,Nat.reduceAdd,Nat.reduceEqDiff,Nat.reduceBEq,Nat.reduceLeDiff,Nat.reduceSub,Nat.reduceMul,Int.reduceEq,Int.reduceLT,Int.reduceLE,Int.reduceSub,Int.reduceAdd,Int.reduceToNat,reduceCtorEq,Int.reduceNeg,TF3,TF4,TF9,TF46,TF84]);refine hK _ _ ?_;clear hK K;try simp only [thenA,])
  exact⟨(),hI,(by simp [sle,vle,sget]),(by simp [ble,])⟩
theorem ok_EqualFuncP (f:FuncId)(p:Param→Param→Bool)(l m:List Param)(hl:l.length≤sm)(hf:∀ x,x∈l→∀ y,CallOK Tryz.prog f [paV x,paV y] (boolV (p x y))) :
  CallOK Tryz.prog 228 [.d (.slice (paR l)),.d (.slice (paR m)),.clo f []] (boolV (eqL p l m)):=by
 (refine CallOK.of_body Tryz.func228 rfl (by decide) (by rw [Tryz.ntmps228];simp) ?_;rw [Tryz.ntmps228])
 (refine AWp.seqR [0,1,2,6,7,8,9,14,15,16,17,18,30] [] (by decide +kernel) fun K hK=>?_;simp -implicitDefEqProofs only [EV,Nat.reduceAdd,Nat.reduceEqDiff,reduceCtorEq,];refine hK _ _ ?_;clear hK K)
 refine AWp.seqK fun K1 hK1=>?_
 (refine AWp.seqR [0,1,2,6,7,8,9,14,15,16,17,18,30] [] (by decide +kernel) fun K hK=>?_;simp -implicitDefEqProofs only [EV,Nat.reduceEqDiff,reduceCtorEq,TF47];refine hK _ _ ?_;clear hK K)
 refine AWp.ifRetK rfl hK1 (fun hc=>?_) (fun hc=>?_)
 ·(refine AWp.seqR [0,1,2,6,7,8,9,14,15,16,17,18,30] [] (by decide +kernel) fun K hK=>?_;simp -implicitDefEqProofs only [EV,Nat.reduceEqDiff,reduceCtorEq,];refine hK _ _ ?_;clear hK K)
  have:eqL p l m=false:=by
   cases h:eqL p l m with
   | false=>rfl
   | true=>have:=eqL_len h;simp [this] at hc
  rw [this]
  exact AWp.ret ⟨_,by rw [Tryz.results228];rfl,rfl⟩
 clear hK1 K1
 have hlm:l.length=m.length:=by
  have:(l.length:Int)=m.length:=by simpa using hc
  omega
 refine AWp.seqK fun K1 hK1=>?_
 (refine AWp.seqR [0,1,2,6,7,8,9,14,15,16,17,18,30] [] (by decide +kernel) fun K hK=>?_;simp -implicitDefEqProofs only [EV,Nat.reduceEqDiff,reduceCtorEq,TF47];refine hK _ _ ?_;clear hK K)
 refine AWp.block (AWp.forIdx l (X:=Unit) (fun j _=>[(1,.d (.slice (paR m))),(2,.clo f []),(15,.d (.slice (paR l))),(16,intV l.length),(17,intV j)]) (fun _ _=>[])
  (fun j _=>eqL p (l.drop j) (m.drop j)=eqL p l m) () (by simp) (by simp [sle,vle,sget]) (by simp [ble,]) ?_ ?_)
 ·intro _ hI
  (refine AWp.seqR [0,1,2,6,7,8,9,14,15,16,17,18,30] [] (by decide +kernel) fun K hK=>?_;simp -implicitDefEqProofs only [EV,Nat.reduceEqDiff,reduceCtorEq,Int.lt_irrefl];refine hK _ _ ?_;clear hK K)
  refine AWp.stop rfl ?_
  simp only [thenA,blockA,if_true]
  refine hK1 _ _ ?_
  (refine AWp.seqR [0,1,2,6,7,8,9,14,15,16,17,18,30] [] (by decide +kernel) fun K hK=>?_;simp -implicitDefEqProofs only [EV,Nat.reduceEqDiff,reduceCtorEq,];refine hK _ _ ?_;clear hK K)
  rw [List.drop_length,hlm,List.drop_length] at hI
  rw [← hI]
  exact AWp.ret ⟨_,by rw [Tryz.results228];rfl,rfl⟩
 ·intro j _ d hd hmem hdrop htake hlt hI
  obtain⟨e,he,hdm⟩:=drop_get (l:=m) (j:=j) (by omega)
  rw [hdrop,hdm,eqL] at hI
  (refine AWp.seqR [0,1,2,6,7,8,9,14,15,16,17,18,30] [] (by decide +kernel) fun K hK=>?_;simp -implicitDefEqProofs only [EV,Nat.reduceEqDiff,reduceCtorEq,hlt];refine hK _ _ ?_;clear hK K)
  refine AWp.goOn rfl ?_
  refine AWp.seqK fun K2 hK2=>?_
  refine AWp.block ?_
  (refine AWp.seqR [0,1,2,6,7,8,9,14,15,16,17,18,30] [] (by decide +kernel) fun K hK=>?_;simp -implicitDefEqProofs only [EV,Nat.reduceEqDiff,reduceCtorEq,TF47,TF91];refine⟨by omega,_,paR_get hd,rfl,?_⟩;(try simp -implicitDefEqProofs only [EV,Nat.reduceAdd,Nat.reduceEqDiff,Nat.reduceLeDiff,reduceCtorEq,TF91]);refine hK _ _ ?_;clear hK K)
  (refine AWp.seqR [0,1,2,6,7,8,9,14,15,16,17,18,30] [] (by decide +kernel) fun K hK=>?_;simp -implicitDefEqProofs only [EV,Nat.reduceEqDiff,reduceCtorEq,TF47,TF91];refine⟨by omega,_,paR_get he,rfl,?_⟩;(try simp -implicitDefEqProofs only [EV,Nat.reduceAdd,Nat.reduceEqDiff,Nat.reduceBEq,Nat.reduceLeDiff,reduceCtorEq,TF91]);refine hK _ _ ?_;clear hK K)
  (refine AWp.seqR [0,1,2,6,7,8,9,14,15,16,17,18,30] [] (by decide +kernel) fun K hK=>?_;simp -implicitDefEqProofs only [EV,Nat.reduceAdd,Nat.reduceEqDiff,reduceCtorEq,TF91];refine⟨_,.inl ⟨_,rfl,hf d hmem e,rfl⟩,?_⟩;(try simp -implicitDefEqProofs only [EV,Nat.reduceEqDiff,reduceCtorEq,]);refine hK _ _ ?_;clear hK K)
  refine AWp.cond rfl (fun hc=>?_) (fun hc=>?_)
  ·(refine AWp.seqR [0,1,2,6,7,8,9,14,15,16,17,18,30] [] (by decide +kernel) fun K hK=>?_;simp -implicitDefEqProofs only [EV,Nat.reduceEqDiff,reduceCtorEq,];refine hK _ _ ?_;clear hK K)
   simp only [Bool.not_eq_true'] at hc
   rw [hc,Bool.false_and] at hI
   rw [← hI]
   exact AWp.ret ⟨_,by rw [Tryz.results228];rfl,rfl⟩
  simp only [Bool.not_eq_false'] at hc
  rw [hc,Bool.true_and] at hI
  refine AWp.skip (hK2 _ _ ?_)
  clear hK2 K2
  (refine AWp.lastR [0,1,2,6,7,8,9,14,15,16,17,18,30] [] (by decide +kernel) fun K hK=>?_;simp -implicitDefEqProofs only [EV,Nat.reduceEqDiff,reduceCtorEq,];refine⟨by first | (unfold InR;omega) | (simp only [InR,sm] at *;omega),?_⟩;(try simp -implicitDefEqProofs only [EV,forall_const,implies_true,Nat.reduceAdd,Nat.reduceEqDiff,Nat.reduceBEq,Nat.reduceLeDiff,Nat.reduceSub,Nat.reduceMul,Int.reduceEq,Int.reduceLT,Int.reduceLE,Int.reduceSub,Int.reduceAdd,Int.reduceToNat,reduceCtorEq,Int.reduceNeg,TF3,TF4,TF9,TF47,TF91]);refine hK _ _ ?_;clear hK K;try simp only [thenA,])
  exact⟨(),hI,(by simp [sle,vle,sget]),(by simp [ble,])⟩
theorem ok_SameSig (a b:Sig)(h:a.Sm):CallOK Tryz.prog 200 [siV a,siV b] (boolV (sameSi a b)):=by
 have hq:=ok_EqualFuncF 227 sameFo a.formals b.formals h.formals.1 (fun x hx y=>ok_sameFormal x y (h.formals.2 x hx))
 have hp:=ok_EqualFuncP 229 samePa a.params b.params h.params.1 (fun x hx y=>ok_sameParam x y (h.params.2 x hx))
 have hr:=ok_TSame a.result b.result h.result
 unfold sameSi
 (refine CallOK.of_body Tryz.func200 rfl (by decide) (by rw [Tryz.ntmps200];simp) ?_;rw [Tryz.ntmps200])
 (refine AWp.seqR [0,1,2,3,4] [] (by decide +kernel) fun K hK=>?_;simp -implicitDefEqProofs only [EV,Nat.reduceAdd,Nat.reduceEqDiff,Nat.reduceBEq,Nat.reduceLeDiff,reduceCtorEq,];refine hK _ _ ?_;clear hK K)
 by_cases hn:a.name=b.name
 ·rcases Bool.eq_false_or_eq_true (eqL sameFo a.formals b.formals) with h3 | h3
  ·rw [h3] at hq
   rcases Bool.eq_false_or_eq_true (eqL samePa a.params b.params) with h4 | h4
   ·rw [h4] at hp
    (refine AWp.seqR [0,1,2,3,4] [] (by decide +kernel) fun K hK=>?_;simp -implicitDefEqProofs only [EV,Nat.reduceAdd,Nat.reduceEqDiff,reduceCtorEq,TF9,TF46,TF78,hn];refine⟨_,.inl ⟨_,rfl,hq,rfl⟩,?_⟩;(try simp -implicitDefEqProofs only [EV,Nat.reduceAdd,Nat.reduceEqDiff,reduceCtorEq,TF47,TF78,]);refine⟨_,.inl ⟨_,rfl,hp,rfl⟩,?_⟩;(try simp -implicitDefEqProofs only [EV,Nat.reduceAdd,Nat.reduceEqDiff,Nat.reduceLeDiff,reduceCtorEq,TF25,TF78,]);refine⟨_,.inl ⟨_,rfl,hr,rfl⟩,?_⟩;(try simp -implicitDefEqProofs only [EV,]);refine hK _ _ ?_;clear hK K)
    rw [decide_eq_true hn,h3,h4,Bool.true_and,Bool.true_and,Bool.true_and]
    exact AWp.ret ⟨_,by rw [Tryz.results200];rfl,rfl⟩
   ·rw [h4] at hp
    (refine AWp.seqR [0,1,2,3,4] [] (by decide +kernel) fun K hK=>?_;simp -implicitDefEqProofs only [EV,Nat.reduceAdd,Nat.reduceEqDiff,reduceCtorEq,TF9,TF46,TF78,hn];refine⟨_,.inl ⟨_,rfl,hq,rfl⟩,?_⟩;(try simp -implicitDefEqProofs only [EV,Nat.reduceAdd,Nat.reduceEqDiff,reduceCtorEq,TF47,TF78,]);refine⟨_,.inl ⟨_,rfl,hp,rfl⟩,?_⟩;(try simp -implicitDefEqProofs only [EV,Nat.reduceEqDiff,reduceCtorEq,]);refine hK _ _ ?_;clear hK K)
    rw [h4,Bool.and_false,Bool.false_and]
    exact AWp.ret ⟨_,by rw [Tryz.results200];rfl,rfl⟩
  ·rw [h3] at hq
   (refine AWp.seqR [0,1,2,3,4] [] (by decide +kernel) fun K hK=>?_;simp -implicitDefEqProofs only [EV,Nat.reduceAdd,Nat.reduceEqDiff,reduceCtorEq,TF9,TF46,TF78,hn];refine⟨_,.inl ⟨_,rfl,hq,rfl⟩,?_⟩;(try simp -implicitDefEqProofs only [EV,Nat.reduceEqDiff,reduceCtorEq,]);refine hK _ _ ?_;clear hK K)
   rw [h3,Bool.and_false,Bool.false_and,Bool.false_and]
   exact AWp.ret ⟨_,by rw [Tryz.results200];rfl,rfl⟩
 ·(refine AWp.seqR [0,1,2,3,4] [] (by decide +kernel) fun K hK=>?_;simp -implicitDefEqProofs only [EV,Nat.reduceEqDiff,reduceCtorEq,TF9,TF78,hn];refine hK _ _ ?_;clear hK K)
  rw [decide_eq_false hn,Bool.false_and,Bool.false_and,Bool.false_and]
  exact AWp.ret ⟨_,by rw [Tryz.results200];rfl,rfl⟩
theorem ok_BAlike (a b:Sig)(h:a.Sm)(h2:b.Sm):CallOK Tryz.prog 173 [siV a,siV b] (boolV (sameSi a.canon b.canon)):=by
 have hs:=ok_SameSig a.canon b.canon h.canon
 (refine CallOK.of_body Tryz.func173 rfl (by decide) (by rw [Tryz.ntmps173];simp) ?_;rw [Tryz.ntmps173])
 (refine AWp.seqR [0,1,2,3,4] [] (by decide +kernel) fun K hK=>?_;simp -implicitDefEqProofs only [EV,Nat.reduceAdd,Nat.reduceEqDiff,Nat.reduceBEq,Nat.reduceLeDiff,reduceCtorEq,];refine hK _ _ ?_;clear hK K)
 (refine AWp.seqD [0,1,2,3,4] [] 6 mixed (by decide +kernel) (by decide +kernel) fun K hK=>?_;simp -implicitDefEqProofs only [EV,Nat.reduceAdd,Nat.reduceEqDiff,reduceCtorEq,TF78];refine⟨_,.inl ⟨_,rfl,ok_BCanon a h,rfl⟩,?_⟩;(try simp -implicitDefEqProofs only [EV,]);refine⟨_,.inl ⟨_,rfl,ok_BCanon b h2,rfl⟩,?_⟩;(try simp -implicitDefEqProofs only [EV,]);refine⟨_,.inl ⟨_,rfl,hs,rfl⟩,?_⟩;(try simp -implicitDefEqProofs only [EV,]);refine hK _ _ ?_;clear hK K)
 exact AWp.ret ⟨_,by rw [Tryz.results173];rfl,rfl⟩
theorem ok_RFormals (l m:List Formal)(hl:l.length≤sm)(hs:∀ x,x∈l→x.Sm) :
  CallOK Tryz.prog 153 [.d (.slice (foR l)),.d (.slice (foR m)),boolV false] (boolV (eqL sameFo l m)):=by
 (refine CallOK.of_body Tryz.func153 rfl (by decide) (by rw [Tryz.ntmps153];simp) ?_;rw [Tryz.ntmps153])
 (refine AWp.seqR [0,1,2,6,7,12,16,43,71] [] (by decide +kernel) fun K hK=>?_;simp -implicitDefEqProofs only [EV,Nat.reduceAdd,Nat.reduceEqDiff,reduceCtorEq,];refine hK _ _ ?_;clear hK K)
 refine AWp.seqK fun K1 hK1=>?_
 (refine AWp.seqR [0,1,2,6,7,12,16,43,71] [] (by decide +kernel) fun K hK=>?_;simp -implicitDefEqProofs only [EV,Nat.reduceEqDiff,reduceCtorEq,TF46];refine hK _ _ ?_;clear hK K)
 refine AWp.ifRetK rfl hK1 (fun hc=>?_) (fun hc=>?_)
 ·(refine AWp.seqR [0,1,2,6,7,12,16,43,71] [] (by decide +kernel) fun K hK=>?_;simp -implicitDefEqProofs only [EV,Nat.reduceEqDiff,reduceCtorEq,];refine hK _ _ ?_;clear hK K)
  have:eqL sameFo l m=false:=by
   cases h:eqL sameFo l m with
   | false=>rfl
   | true=>have:=eqL_len h;simp [this] at hc
  rw [this]
  exact AWp.ret ⟨_,by rw [Tryz.results153];rfl,rfl⟩
 clear hK1 K1
 have hlm:l.length=m.length:=by
  have:(l.length:Int)=m.length:=by simpa using hc
  omega
 refine AWp.seqK fun K1 hK1=>?_
 (refine AWp.seqR [0,1,2,6,7,12,16,43,71] [] (by decide +kernel) fun K hK=>?_;simp -implicitDefEqProofs only [EV,Nat.reduceEqDiff,reduceCtorEq,];refine hK _ _ ?_;clear hK K)
 refine AWp.block (AWp.forIdx l (X:=Unit) (fun j _=>[(0,.d (.slice (foR l))),(1,.d (.slice (foR m))),(2,boolV false),(7,intV j)]) (fun _ _=>[])
  (fun j _=>eqL sameFo (l.drop j) (m.drop j)=eqL sameFo l m) () (by simp) (by simp [sle,vle,sget]) (by simp [ble,]) ?_ ?_)
 ·intro _ hI
  refine AWp.seqK fun K2 hK2=>?_
  (refine AWp.seqR [0,1,2,6,7,12,16,43,71] [] (by decide +kernel) fun K hK=>?_;simp -implicitDefEqProofs only [EV,Nat.reduceEqDiff,reduceCtorEq,TF46,Int.lt_irrefl];refine hK _ _ ?_;clear hK K)
  refine AWp.stopK rfl ?_
  simp only [thenA,blockA,if_true]
  refine hK1 _ _ ?_
  (refine AWp.seqR [0,1,2,6,7,12,16,43,71] [] (by decide +kernel) fun K hK=>?_;simp -implicitDefEqProofs only [EV,Nat.reduceEqDiff,reduceCtorEq,];refine hK _ _ ?_;clear hK K)
  rw [List.drop_length,hlm,List.drop_length] at hI
  rw [← hI]
  exact AWp.ret ⟨_,by rw [Tryz.results153];rfl,rfl⟩
 ·intro j _ d hd hmem hdrop htake hlt hI
  obtain⟨e,he,hdm⟩:=drop_get (l:=m) (j:=j) (by omega)
  rw [hdrop,hdm,eqL,sameFo] at hI
  refine AWp.seqK fun K2 hK2=>?_
  (refine AWp.seqR [0,1,2,6,7,12,16,43,71] [] (by decide +kernel) fun K hK=>?_;simp -implicitDefEqProofs only [EV,Nat.reduceEqDiff,reduceCtorEq,TF46,hlt];refine hK _ _ ?_;clear hK K)
  refine AWp.goOnK rfl hK2 ?_
  clear hK2 K2
  refine AWp.seqK fun K2 hK2=>?_
  refine AWp.block ?_
  refine AWp.seqK fun K3 hK3=>?_
  by_cases hn:d.name=e.name
  ·have hsm:=ok_RSame d.bound e.bound (hs d hmem).bound
   (refine AWp.seqD [0,1,2,6,7,12,16,43,71] [] 25 mixed (by decide +kernel) (by decide +kernel) fun K hK=>?_;simp -implicitDefEqProofs only [EV,Nat.reduceEqDiff,reduceCtorEq,TF9,TF46,TF84];refine⟨by omega,_,foR_get hd,rfl,?_⟩;(try simp -implicitDefEqProofs only [EV,Nat.reduceEqDiff,reduceCtorEq,TF9,TF46,TF84,hn]);refine⟨by omega,_,foR_get he,rfl,?_⟩;(try simp -implicitDefEqProofs only [EV,Nat.reduceAdd,Nat.reduceEqDiff,reduceCtorEq,TF25,TF46,TF84]);refine⟨by omega,_,foR_get hd,rfl,?_⟩;(try simp -implicitDefEqProofs only [EV,Nat.reduceAdd,Nat.reduceEqDiff,Nat.reduceLeDiff,reduceCtorEq,TF25,TF46,TF84,hn]);refine⟨by omega,_,foR_get he,rfl,?_⟩;(try simp -implicitDefEqProofs only [EV,Nat.reduceAdd,Nat.reduceEqDiff,Nat.reduceLeDiff,reduceCtorEq,]);refine⟨_,.inl ⟨_,rfl,hsm,rfl⟩,?_⟩;(try simp -implicitDefEqProofs only [EV,Nat.reduceEqDiff,reduceCtorEq,]);refine hK _ _ ?_;clear hK K)
   rw [decide_eq_true hn,Bool.true_and] at hI
   refine AWp.ifRetK rfl hK3 (fun hc=>?_) (fun hc=>?_)
   ·(refine AWp.seqR [0,1,2,6,7,12,16,43,71] [] (by decide +kernel) fun K hK=>?_;simp -implicitDefEqProofs only [EV,Nat.reduceEqDiff,reduceCtorEq,];refine hK _ _ ?_;clear hK K)
    simp only [Bool.not_eq_true'] at hc
    rw [hc,Bool.false_and] at hI
    rw [← hI]
    exact AWp.ret ⟨_,by rw [Tryz.results153];rfl,rfl⟩
   clear hK3 K3
   simp only [Bool.not_eq_false'] at hc
   rw [hc,Bool.true_and] at hI
   (refine AWp.seqD [0,1,2,6,7,12,16,43,71] [] 28 mixed (by decide +kernel) (by decide +kernel) fun K hK=>?_;simp -implicitDefEqProofs only [EV,Nat.reduceEqDiff,reduceCtorEq,];refine hK _ _ ?_;clear hK K)
   refine AWp.condF rfl (AWp.skip (hK2 _ _ ?_))
   clear hK2 K2
   (refine AWp.lastR [0,1,2,6,7,12,16,43,71] [] (by decide +kernel) fun K hK=>?_;simp -implicitDefEqProofs only [EV,Nat.reduceEqDiff,reduceCtorEq,];refine⟨by first | (unfold InR;omega) | (simp only [InR,sm] at *;omega),?_⟩;(try simp -implicitDefEqProofs only [EV,forall_const,implies_true,Nat.reduceAdd,Nat.reduceEqDiff,Nat.reduceBEq,Nat.reduceLeDiff,Nat.reduceSub,Nat.reduceMul,Int.reduceEq,Int.reduceLT,Int.reduceLE,Int.reduceSub,Int.reduceAdd,Int.reduceToNat,reduceCtorEq,Int.reduceNeg,TF3,TF4,TF9,TF25,TF46,TF84]);refine hK _ _ ?_;clear hK K;try simp only [thenA,])
   exact⟨(),hI,(by simp [sle,vle,sget]),(by simp [ble,])⟩
  ·(refine AWp.seqD [0,1,2,6,7,12,16,43,71] [] 25 mixed (by decide +kernel) (by decide +kernel) fun K hK=>?_;simp -implicitDefEqProofs only [EV,Nat.reduceEqDiff,reduceCtorEq,TF9,TF46,TF84];refine⟨by omega,_,foR_get hd,rfl,?_⟩;(try simp -implicitDefEqProofs only [EV,Nat.reduceEqDiff,reduceCtorEq,TF9,TF46,TF84]);refine⟨by omega,_,foR_get he,rfl,?_⟩;(try simp -implicitDefEqProofs only [EV,Nat.reduceEqDiff,reduceCtorEq,hn]);refine hK _ _ ?_;clear hK K)
   refine AWp.takeIfK rfl ?_
   (refine AWp.seqR [0,1,2,6,7,12,16,43,71] [] (by decide +kernel) fun K hK=>?_;simp -implicitDefEqProofs only [EV,Nat.reduceEqDiff,reduceCtorEq,];refine hK _ _ ?_;clear hK K)
   rw [decide_eq_false hn,Bool.false_and,Bool.false_and] at hI
   rw [← hI]
   exact AWp.ret ⟨_,by rw [Tryz.results153];rfl,rfl⟩
theorem ok_RParams (l m:List Param)(hl:l.length≤sm)(hs:∀ x,x∈l→x.Sm) :
  CallOK Tryz.prog 154 [.d (.slice (paR l)),.d (.slice (paR m)),boolV false] (boolV (eqL samePa l m)):=by
 (refine CallOK.of_body Tryz.func154 rfl (by decide) (by rw [Tryz.ntmps154];simp) ?_;rw [Tryz.ntmps154])
 (refine AWp.seqR [0,1,2,6,7,12,16,43,71] [] (by decide +kernel) fun K hK=>?_;simp -implicitDefEqProofs only [EV,Nat.reduceAdd,Nat.reduceEqDiff,reduceCtorEq,];refine hK _ _ ?_;clear hK K)
 refine AWp.seqK fun K1 hK1=>?_
 (refine AWp.seqR [0,1,2,6,7,12,16,43,71] [] (by decide +kernel) fun K hK=>?_;simp -implicitDefEqProofs only [EV,Nat.reduceEqDiff,reduceCtorEq,TF47];refine hK _ _ ?_;clear hK K)
 refine AWp.ifRetK rfl hK1 (fun hc=>?_) (fun hc=>?_)
 ·(refine AWp.seqR [0,1,2,6,7,12,16,43,71] [] (by decide +kernel) fun K hK=>?_;simp -implicitDefEqProofs only [EV,Nat.reduceEqDiff,reduceCtorEq,];refine hK _ _ ?_;clear hK K)
  have:eqL samePa l m=false:=by
   cases h:eqL samePa l m with
   | false=>rfl
   | true=>have:=eqL_len h;simp [this] at hc
  rw [this]
  exact AWp.ret ⟨_,by rw [Tryz.results154];rfl,rfl⟩
 clear hK1 K1
 have hlm:l.length=m.length:=by
  have:(l.length:Int)=m.length:=by simpa using hc
  omega
 refine AWp.seqK fun K1 hK1=>?_
 (refine AWp.seqR [0,1,2,6,7,12,16,43,71] [] (by decide +kernel) fun K hK=>?_;simp -implicitDefEqProofs only [EV,Nat.reduceEqDiff,reduceCtorEq,];refine hK _ _ ?_;clear hK K)
 refine AWp.block (AWp.forIdx l (X:=Unit) (fun j _=>[(0,.d (.slice (paR l))),(1,.d (.slice (paR m))),(2,boolV false),(7,intV j)]) (fun _ _=>[])
  (fun j _=>eqL samePa (l.drop j) (m.drop j)=eqL samePa l m) () (by simp) (by simp [sle,vle,sget]) (by simp [ble,]) ?_ ?_)
 ·intro _ hI
  refine AWp.seqK fun K2 hK2=>?_
  (refine AWp.seqR [0,1,2,6,7,12,16,43,71] [] (by decide +kernel) fun K hK=>?_;simp -implicitDefEqProofs only [EV,Nat.reduceEqDiff,reduceCtorEq,TF47,Int.lt_irrefl];refine hK _ _ ?_;clear hK K)
  refine AWp.stopK rfl ?_
  simp only [thenA,blockA,if_true]
  refine hK1 _ _ ?_
  (refine AWp.seqR [0,1,2,6,7,12,16,43,71] [] (by decide +kernel) fun K hK=>?_;simp -implicitDefEqProofs only [EV,Nat.reduceEqDiff,reduceCtorEq,];refine hK _ _ ?_;clear hK K)
  rw [List.drop_length,hlm,List.drop_length] at hI
  rw [← hI]
  exact AWp.ret ⟨_,by rw [Tryz.results154];rfl,rfl⟩
 ·intro j _ d hd hmem hdrop htake hlt hI
  obtain⟨e,he,hdm⟩:=drop_get (l:=m) (j:=j) (by omega)
  rw [hdrop,hdm,eqL,samePa] at hI
  refine AWp.seqK fun K2 hK2=>?_
  (refine AWp.seqR [0,1,2,6,7,12,16,43,71] [] (by decide +kernel) fun K hK=>?_;simp -implicitDefEqProofs only [EV,Nat.reduceEqDiff,reduceCtorEq,TF47,hlt];refine hK _ _ ?_;clear hK K)
  refine AWp.goOnK rfl hK2 ?_
  clear hK2 K2
  refine AWp.seqK fun K2 hK2=>?_
  refine AWp.block ?_
  refine AWp.seqK fun K3 hK3=>?_
  by_cases hn:d.name=e.name
  ·have hsm:=ok_RSame d.type e.type (hs d hmem).type
   (refine AWp.seqD [0,1,2,6,7,12,16,43,71] [] 25 mixed (by decide +kernel) (by decide +kernel) fun K hK=>?_;simp -implicitDefEqProofs only [EV,Nat.reduceEqDiff,reduceCtorEq,TF9,TF47,TF91];refine⟨by omega,_,paR_get hd,rfl,?_⟩;(try simp -implicitDefEqProofs only [EV,Nat.reduceEqDiff,reduceCtorEq,TF9,TF47,TF91,hn]);refine⟨by omega,_,paR_get he,rfl,?_⟩;(try simp -implicitDefEqProofs only [EV,Nat.reduceAdd,Nat.reduceEqDiff,reduceCtorEq,TF25,TF47,TF91]);refine⟨by omega,_,paR_get hd,rfl,?_⟩;(try simp -implicitDefEqProofs only [EV,Nat.reduceAdd,Nat.reduceEqDiff,Nat.reduceLeDiff,reduceCtorEq,TF25,TF47,TF91,hn]);refine⟨by omega,_,paR_get he,rfl,?_⟩;(try simp -implicitDefEqProofs only [EV,Nat.reduceAdd,Nat.reduceEqDiff,Nat.reduceLeDiff,reduceCtorEq,]);refine⟨_,.inl ⟨_,rfl,hsm,rfl⟩,?_⟩;(try simp -implicitDefEqProofs only [EV,Nat.reduceEqDiff,reduceCtorEq,]);refine hK _ _ ?_;clear hK K)
   rw [decide_eq_true hn,Bool.true_and] at hI
   refine AWp.ifRetK rfl hK3 (fun hc=>?_) (fun hc=>?_)
   ·(refine AWp.seqR [0,1,2,6,7,12,16,43,71] [] (by decide +kernel) fun K hK=>?_;simp -implicitDefEqProofs only [EV,Nat.reduceEqDiff,reduceCtorEq,];refine hK _ _ ?_;clear hK K)
    simp only [Bool.not_eq_true'] at hc
    rw [hc,Bool.false_and] at hI
    rw [← hI]
    exact AWp.ret ⟨_,by rw [Tryz.results154];rfl,rfl⟩
   clear hK3 K3
   simp only [Bool.not_eq_false'] at hc
   rw [hc,Bool.true_and] at hI
   (refine AWp.seqD [0,1,2,6,7,12,16,43,71] [] 28 mixed (by decide +kernel) (by decide +kernel) fun K hK=>?_;simp -implicitDefEqProofs only [EV,Nat.reduceEqDiff,reduceCtorEq,];refine hK _ _ ?_;clear hK K)
   refine AWp.condF rfl (AWp.skip (hK2 _ _ ?_))
   clear hK2 K2
   (refine AWp.lastR [0,1,2,6,7,12,16,43,71] [] (by decide +kernel) fun K hK=>?_;simp -implicitDefEqProofs only [EV,Nat.reduceEqDiff,reduceCtorEq,];refine⟨by first | (unfold InR;omega) | (simp only [InR,sm] at *;omega),?_⟩;(try simp -implicitDefEqProofs only [EV,forall_const,implies_true,Nat.reduceAdd,Nat.reduceEqDiff,Nat.reduceBEq,Nat.reduceLeDiff,Nat.reduceSub,Nat.reduceMul,Int.reduceEq,Int.reduceLT,Int.reduceLE,Int.reduceSub,Int.reduceAdd,Int.reduceToNat,reduceCtorEq,Int.reduceNeg,TF3,TF4,TF9,TF25,TF47,TF91]);refine hK _ _ ?_;clear hK K;try simp only [thenA,])
   exact⟨(),hI,(by simp [sle,vle,sget]),(by simp [ble,])⟩
  ·(refine AWp.seqD [0,1,2,6,7,12,16,43,71] [] 25 mixed (by decide +kernel) (by decide +kernel) fun K hK=>?_;simp -implicitDefEqProofs only [EV,Nat.reduceEqDiff,reduceCtorEq,TF9,TF47,TF91];refine⟨by omega,_,paR_get hd,rfl,?_⟩;(try simp -implicitDefEqProofs only [EV,Nat.reduceEqDiff,reduceCtorEq,TF9,TF47,TF91]);refine⟨by omega,_,paR_get he,rfl,?_⟩;(try simp -implicitDefEqProofs only [EV,Nat.reduceEqDiff,reduceCtorEq,hn]);refine hK _ _ ?_;clear hK K)
   refine AWp.takeIfK rfl ?_
   (refine AWp.seqR [0,1,2,6,7,12,16,43,71] [] (by decide +kernel) fun K hK=>?_;simp -implicitDefEqProofs only [EV,Nat.reduceEqDiff,reduceCtorEq,];refine hK _ _ ?_;clear hK K)
   rw [decide_eq_false hn,Bool.false_and,Bool.false_and] at hI
   rw [← hI]
   exact AWp.ret ⟨_,by rw [Tryz.results154];rfl,rfl⟩
theorem ok_RSig (a b:Sig)(h:a.Sm):CallOK Tryz.prog 107 [siV a,siV b,boolV false] (boolV (sameSi a b)):=by
 have hq:=ok_RFormals a.formals b.formals h.formals.1 h.formals.2
 have hp:=ok_RParams a.params b.params h.params.1 h.params.2
 have hr:=ok_RSame a.result b.result h.result
 unfold sameSi
 (refine CallOK.of_body Tryz.func107 rfl (by decide) (by rw [Tryz.ntmps107];simp) ?_;rw [Tryz.ntmps107])
 (refine AWp.seqR [0,1,2,3,4,6,37] [] (by decide +kernel) fun K hK=>?_;simp -implicitDefEqProofs only [EV,Nat.reduceAdd,Nat.reduceEqDiff,Nat.reduceBEq,Nat.reduceLeDiff,reduceCtorEq,];refine hK _ _ ?_;clear hK K)
 refine AWp.seqK fun K1 hK1=>?_
 by_cases hn:a.name=b.name
 ·rcases Bool.eq_false_or_eq_true (eqL sameFo a.formals b.formals) with h3 | h3
  ·rw [h3] at hq
   rcases Bool.eq_false_or_eq_true (eqL samePa a.params b.params) with h4 | h4
   ·rw [h4] at hp
    rcases Bool.eq_false_or_eq_true (sameT a.result b.result) with h5 | h5
    ·rw [h5] at hr
     (refine AWp.seqR [0,1,2,3,4,6,37] [] (by decide +kernel) fun K hK=>?_;simp -implicitDefEqProofs only [EV,Nat.reduceAdd,Nat.reduceEqDiff,reduceCtorEq,TF9,TF46,TF78,hn];refine⟨_,.inl ⟨_,rfl,hq,rfl⟩,?_⟩;(try simp -implicitDefEqProofs only [EV,Nat.reduceAdd,Nat.reduceEqDiff,reduceCtorEq,TF47,TF78,]);refine⟨_,.inl ⟨_,rfl,hp,rfl⟩,?_⟩;(try simp -implicitDefEqProofs only [EV,Nat.reduceAdd,Nat.reduceEqDiff,Nat.reduceLeDiff,reduceCtorEq,TF25,TF78,]);refine⟨_,.inl ⟨_,rfl,hr,rfl⟩,?_⟩;(try simp -implicitDefEqProofs only [EV,Nat.reduceEqDiff,reduceCtorEq,]);refine hK _ _ ?_;clear hK K)
     refine AWp.skipIfK rfl hK1 ?_
     (refine AWp.seqR [0,1,2,3,4,6,37] [] (by decide +kernel) fun K hK=>?_;simp -implicitDefEqProofs only [EV,Nat.reduceEqDiff,reduceCtorEq,];refine hK _ _ ?_;clear hK K)
     rw [decide_eq_true hn,h3,h4,h5]
     exact AWp.ret ⟨_,by rw [Tryz.results107];rfl,rfl⟩
    ·rw [h5] at hr
     (refine AWp.seqR [0,1,2,3,4,6,37] [] (by decide +kernel) fun K hK=>?_;simp -implicitDefEqProofs only [EV,Nat.reduceAdd,Nat.reduceEqDiff,reduceCtorEq,TF9,TF46,TF78,hn];refine⟨_,.inl ⟨_,rfl,hq,rfl⟩,?_⟩;(try simp -implicitDefEqProofs only [EV,Nat.reduceAdd,Nat.reduceEqDiff,reduceCtorEq,TF47,TF78,]);refine⟨_,.inl ⟨_,rfl,hp,rfl⟩,?_⟩;(try simp -implicitDefEqProofs only [EV,Nat.reduceAdd,Nat.reduceEqDiff,Nat.reduceLeDiff,reduceCtorEq,TF25,TF78,]);refine⟨_,.inl ⟨_,rfl,hr,rfl⟩,?_⟩;(try simp -implicitDefEqProofs only [EV,Nat.reduceEqDiff,reduceCtorEq,]);refine hK _ _ ?_;clear hK K)
     refine AWp.takeIfK rfl ?_
     (refine AWp.seqR [0,1,2,3,4,6,37] [] (by decide +kernel) fun K hK=>?_;simp -implicitDefEqProofs only [EV,Nat.reduceEqDiff,reduceCtorEq,];refine hK _ _ ?_;clear hK K)
     rw [h5,Bool.and_false]
     exact AWp.ret ⟨_,by rw [Tryz.results107];rfl,rfl⟩
   ·rw [h4] at hp
    (refine AWp.seqR [0,1,2,3,4,6,37] [] (by decide +kernel) fun K hK=>?_;simp -implicitDefEqProofs only [EV,Nat.reduceAdd,Nat.reduceEqDiff,reduceCtorEq,TF9,TF46,TF78,hn];refine⟨_,.inl ⟨_,rfl,hq,rfl⟩,?_⟩;(try simp -implicitDefEqProofs only [EV,Nat.reduceAdd,Nat.reduceEqDiff,reduceCtorEq,TF47,TF78,]);refine⟨_,.inl ⟨_,rfl,hp,rfl⟩,?_⟩;(try simp -implicitDefEqProofs only [EV,Nat.reduceEqDiff,reduceCtorEq,]);refine hK _ _ ?_;clear hK K)
    refine AWp.takeIfK rfl ?_
    (refine AWp.seqR [0,1,2,3,4,6,37] [] (by decide +kernel) fun K hK=>?_;simp -implicitDefEqProofs only [EV,Nat.reduceEqDiff,reduceCtorEq,];refine hK _ _ ?_;clear hK K)
    rw [h4,Bool.and_false,Bool.false_and]
    exact AWp.ret ⟨_,by rw [Tryz.results107];rfl,rfl⟩
  ·rw [h3] at hq
   (refine AWp.seqR [0,1,2,3,4,6,37] [] (by decide +kernel) fun K hK=>?_;simp -implicitDefEqProofs only [EV,Nat.reduceAdd,Nat.reduceEqDiff,reduceCtorEq,TF9,TF46,TF78,hn];refine⟨_,.inl ⟨_,rfl,hq,rfl⟩,?_⟩;(try simp -implicitDefEqProofs only [EV,Nat.reduceEqDiff,reduceCtorEq,]);refine hK _ _ ?_;clear hK K)
   refine AWp.takeIfK rfl ?_
   (refine AWp.seqR [0,1,2,3,4,6,37] [] (by decide +kernel) fun K hK=>?_;simp -implicitDefEqProofs only [EV,Nat.reduceEqDiff,reduceCtorEq,];refine hK _ _ ?_;clear hK K)
   rw [h3,Bool.and_false,Bool.false_and,Bool.false_and]
   exact AWp.ret ⟨_,by rw [Tryz.results107];rfl,rfl⟩
 ·(refine AWp.seqR [0,1,2,3,4,6,37] [] (by decide +kernel) fun K hK=>?_;simp -implicitDefEqProofs only [EV,Nat.reduceEqDiff,reduceCtorEq,TF9,TF78,hn];refine hK _ _ ?_;clear hK K)
  refine AWp.takeIfK rfl ?_
  (refine AWp.seqR [0,1,2,3,4,6,37] [] (by decide +kernel) fun K hK=>?_;simp -implicitDefEqProofs only [EV,Nat.reduceEqDiff,reduceCtorEq,];refine hK _ _ ?_;clear hK K)
  rw [decide_eq_false hn,Bool.false_and,Bool.false_and,Bool.false_and]
  exact AWp.ret ⟨_,by rw [Tryz.results107];rfl,rfl⟩
theorem ok_RAlike (a b:Sig)(h:a.Sm)(h2:b.Sm):CallOK Tryz.prog 126 [siV a,siV b] (boolV (sameSi a.canon b.canon)):=by
 have hs:=ok_RSig a.canon b.canon h.canon
 (refine CallOK.of_body Tryz.func126 rfl (by decide) (by rw [Tryz.ntmps126];simp) ?_;rw [Tryz.ntmps126])
 (refine AWp.seqR [0,1,2,3,4] [] (by decide +kernel) fun K hK=>?_;simp -implicitDefEqProofs only [EV,Nat.reduceAdd,Nat.reduceEqDiff,Nat.reduceBEq,Nat.reduceLeDiff,reduceCtorEq,];refine hK _ _ ?_;clear hK K)
 (refine AWp.seqD [0,1,2,3,4] [] 6 mixed (by decide +kernel) (by decide +kernel) fun K hK=>?_;simp -implicitDefEqProofs only [EV,Nat.reduceAdd,Nat.reduceEqDiff,reduceCtorEq,TF78];refine⟨_,.inl ⟨_,rfl,ok_RCanon a h,rfl⟩,?_⟩;(try simp -implicitDefEqProofs only [EV,]);refine⟨_,.inl ⟨_,rfl,ok_RCanon b h2,rfl⟩,?_⟩;(try simp -implicitDefEqProofs only [EV,]);refine⟨_,.inl ⟨_,rfl,hs,rfl⟩,?_⟩;(try simp -implicitDefEqProofs only [EV,]);refine hK _ _ ?_;clear hK K)
 exact AWp.ret ⟨_,by rw [Tryz.results126];rfl,rfl⟩
end Go.Abs

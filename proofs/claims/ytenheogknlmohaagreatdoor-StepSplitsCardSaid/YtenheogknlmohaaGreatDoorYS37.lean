/- step: selection, call, assertion; what a redex becomes -/
import Derived.Test.YtenheogknlmohaaGreatDoorYS24
import Derived.Test.YtenheogknlmohaaGreatDoorYS36
namespace Go.Abs
set_option linter.unusedSimpArgs false
set_option linter.unusedVariables false
open Go Go.Proofs
set_option maxRecDepth 100000
set_option maxHeartbeats 1000000
abbrev maV (p:Prog):SV:=.agg [.dptr (tabC p) 0]
def selE (p:Prog)(e v:Ex):Ex × Int :=
 if instB p v.type 1=true∧0≤idxF (fun f:Param=>decide (f.name=e.name)) (fieldsT p v.type)∧idxF (fun f:Param=>decide (f.name=e.name)) (fieldsT p v.type) < v.kids.length then
  ((v.kids[(idxF (fun f:Param=>decide (f.name=e.name)) (fieldsT p v.type)).toNat]?).getD v,1) else (e,4)
def asrtE (p:Prog)(e v:Ex):Ex × Int:=if implB p [] v.type e.type=true then (v,1) else (e,3)
def calledE (e v:Ex)(d:Decl):Ex:=(d.body.subst (d.vars++fnames d.sig.formals) (v.type.args++e.targs)).repl (d.recv::d.sig.params.map (·.name)) e.kids
def callE (p:Prog)(e v:Ex):Ex × Int:=match methD p v.type e.name with
 | none=>(e,4)
 | some d=>if d.sig.formals.length=e.targs.length∧d.sig.params.length+1=e.kids.length then (calledE e v d,1) else (e,4)
abbrev resV (r:Ex × Int):SV:=.tuple [exV r.1,intV r.2]
theorem methD_mem {p:Prog} {x:Ty} {m:Str} {d:Decl} (h:methD p x m=some d):d∈p.decls:=by
 unfold methD at h
 split at h
 ·split at h
  ·rename_i hf
   split at h
   ·cases h;exact List.mem_of_find?_eq_some hf
   ·cases h
  ·cases h
 ·cases h
theorem ok_assertion (p:Prog)(h:p.Sm)(e v:Ex)(he:e.Sm)(h0:e.kids[0]? = some v):CallOK Tryz.prog 100 [maV p,exV e] (resV (asrtE p e v)):=by
 have hv:=he.kids.2 v (List.mem_of_getElem? h0)
 have hi:=ok_Implements p h [] (by simp) (by simp) v.type e.type hv.type he.type
 unfold asrtE
 generalize implB p [] v.type e.type=b at *
 cases b
 ·rw [if_neg (by decide)]
  (refine CallOK.of_body Tryz.func100 rfl (by decide) (by rw [Tryz.ntmps100];simp) ?_;rw [Tryz.ntmps100])
  (refine AWp.seqR [0,1,2,3,4,5,6,18] [] (by decide +kernel) fun K hK=>?_;simp -implicitDefEqProofs only [EV,Nat.reduceAdd,Nat.reduceEqDiff,Nat.reduceBEq,Nat.reduceLeDiff,reduceCtorEq,TF28,];refine hK _ _ ?_;clear hK K)
  (refine AWp.seqR [0,1,2,3,4,5,6,18] [] (by decide +kernel) fun K hK=>?_;simp -implicitDefEqProofs only [EV,Nat.reduceEqDiff,Int.reduceLE,Int.reduceToNat,reduceCtorEq,TF26,TF28,];refine⟨_,exR_get h0,rfl,?_⟩;(try simp -implicitDefEqProofs only [EV,Nat.reduceAdd,Nat.reduceEqDiff,Nat.reduceBEq,Nat.reduceLeDiff,reduceCtorEq,TF28,]);refine hK _ _ ?_;clear hK K)
  refine AWp.seqK fun K1 hK1=>?_
  (refine AWp.seqR [0,1,2,3,4,5,6,18] [] (by decide +kernel) fun K hK=>?_;simp -implicitDefEqProofs only [EV,Nat.reduceAdd,Nat.reduceEqDiff,Nat.reduceLeDiff,reduceCtorEq,TF25,TF28,TF56,TF95];refine⟨_,.inl ⟨_,rfl,hi,rfl⟩,?_⟩;(try simp -implicitDefEqProofs only [EV,Nat.reduceEqDiff,reduceCtorEq,]);refine hK _ _ ?_;clear hK K)
  refine AWp.takeIfK rfl ?_
  (refine AWp.seqR [0,1,2,3,4,5,6,18] [] (by decide +kernel) fun K hK=>?_;simp -implicitDefEqProofs only [EV,Nat.reduceAdd,Nat.reduceEqDiff,reduceCtorEq,TF28,];refine hK _ _ ?_;clear hK K)
  exact AWp.ret ⟨_,by rw [Tryz.results100];rfl,rfl⟩
 ·rw [if_pos rfl]
  (refine CallOK.of_body Tryz.func100 rfl (by decide) (by rw [Tryz.ntmps100];simp) ?_;rw [Tryz.ntmps100])
  (refine AWp.seqR [0,1,2,3,4,5,6,18] [] (by decide +kernel) fun K hK=>?_;simp -implicitDefEqProofs only [EV,Nat.reduceAdd,Nat.reduceEqDiff,Nat.reduceBEq,Nat.reduceLeDiff,reduceCtorEq,TF28,];refine hK _ _ ?_;clear hK K)
  (refine AWp.seqR [0,1,2,3,4,5,6,18] [] (by decide +kernel) fun K hK=>?_;simp -implicitDefEqProofs only [EV,Nat.reduceEqDiff,Int.reduceLE,Int.reduceToNat,reduceCtorEq,TF26,TF28,];refine⟨_,exR_get h0,rfl,?_⟩;(try simp -implicitDefEqProofs only [EV,Nat.reduceAdd,Nat.reduceEqDiff,Nat.reduceBEq,Nat.reduceLeDiff,reduceCtorEq,TF28,]);refine hK _ _ ?_;clear hK K)
  refine AWp.seqK fun K1 hK1=>?_
  (refine AWp.seqR [0,1,2,3,4,5,6,18] [] (by decide +kernel) fun K hK=>?_;simp -implicitDefEqProofs only [EV,Nat.reduceAdd,Nat.reduceEqDiff,Nat.reduceLeDiff,reduceCtorEq,TF25,TF28,TF56,TF95];refine⟨_,.inl ⟨_,rfl,hi,rfl⟩,?_⟩;(try simp -implicitDefEqProofs only [EV,Nat.reduceEqDiff,reduceCtorEq,]);refine hK _ _ ?_;clear hK K)
  refine AWp.skipIfK rfl hK1 ?_
  (refine AWp.seqR [0,1,2,3,4,5,6,18] [] (by decide +kernel) fun K hK=>?_;simp -implicitDefEqProofs only [EV,Nat.reduceAdd,Nat.reduceEqDiff,reduceCtorEq,TF28,];refine hK _ _ ?_;clear hK K)
  exact AWp.ret ⟨_,by rw [Tryz.results100];rfl,rfl⟩
theorem fieldsT_len {p:Prog} (h:p.Sm)(x:Ty):(fieldsT p x).length≤sm:=by
 unfold fieldsT
 split
 ·rename_i hi
  obtain⟨d,hd,_⟩:=inst_decl (by decide) hi
  rw [hd,Option.getD_some]
  unfold fieldsD
  rw [List.length_map]
  exact (h.decls.2 d (declT_mem hd)).fields.1
 ·simp
theorem ok_selection (p:Prog)(h:p.Sm)(e v:Ex)(he:e.Sm)(h0:e.kids[0]? = some v):CallOK Tryz.prog 99 [maV p,exV e] (resV (selE p e v)):=by
 have hv:=he.kids.2 v (List.mem_of_getElem? h0)
 have hf:=ok_TFields p h v.type hv.type
 have h1:∀ f:Param,CallOK Tryz.prog 150 [paV f,.dptr (exC e) 0] (boolV (decide (f.name=e.name))):=fun f=>by
  (refine CallOK.of_body Tryz.func150 rfl (by decide) (by rw [Tryz.ntmps150];simp) ?_;rw [Tryz.ntmps150])
  (refine AWp.seqR [0,1,2,3] [] (by decide +kernel) fun K hK=>?_;simp -implicitDefEqProofs only [EV,Nat.reduceAdd,Nat.reduceEqDiff,Nat.reduceLeDiff,reduceCtorEq,];refine hK _ _ ?_;clear hK K)
  (refine AWp.seqR [0,1,2,3] [] (by decide +kernel) fun K hK=>?_;simp -implicitDefEqProofs only [EV,Nat.reduceEqDiff,reduceCtorEq,TF9,TF28,TF91];refine hK _ _ ?_;clear hK K)
  exact AWp.ret ⟨_,by rw [Tryz.results150];rfl,rfl⟩
 have hx:=ok_IndexFuncP 150 [.dptr (exC e) 0] (fun _=>rfl) (fun f:Param=>decide (f.name=e.name)) (fieldsT p v.type) (fieldsT_len h v.type) (fun t _=>h1 t)
 unfold selE
 generalize idxF (fun f:Param=>decide (f.name=e.name)) (fieldsT p v.type)=k at *
 generalize fieldsT p v.type=fs at *
 generalize instB p v.type 1=bb at *
 cases bb
 ·rw [if_neg (fun hh=>by cases hh.1)]
  (refine CallOK.of_body Tryz.func99 rfl (by decide) (by rw [Tryz.ntmps99];simp) ?_;rw [Tryz.ntmps99])
  (refine AWp.seqR [0,1,2,3,4,5,6,7,8,9,37] [] (by decide +kernel) fun K hK=>?_;simp -implicitDefEqProofs only [EV,Nat.reduceAdd,Nat.reduceEqDiff,Nat.reduceBEq,Nat.reduceLeDiff,reduceCtorEq,TF28,];refine hK _ _ ?_;clear hK K)
  (refine AWp.seqR [0,1,2,3,4,5,6,7,8,9,37] [] (by decide +kernel) fun K hK=>?_;simp -implicitDefEqProofs only [EV,Nat.reduceEqDiff,Int.reduceLE,Int.reduceToNat,reduceCtorEq,TF26,TF28,];refine⟨_,exR_get h0,rfl,?_⟩;(try simp -implicitDefEqProofs only [EV,Nat.reduceAdd,Nat.reduceEqDiff,Nat.reduceBEq,Nat.reduceLeDiff,reduceCtorEq,TF28,]);refine hK _ _ ?_;clear hK K)
  (refine AWp.seqR [0,1,2,3,4,5,6,7,8,9,37] [] (by decide +kernel) fun K hK=>?_;simp -implicitDefEqProofs only [EV,Nat.reduceAdd,Nat.reduceEqDiff,Nat.reduceLeDiff,reduceCtorEq,TF25,TF28,TF56,TF95];refine⟨_,.inl ⟨_,rfl,hf,rfl⟩,?_⟩;(try simp -implicitDefEqProofs only [EV,Nat.reduceEqDiff,reduceCtorEq,]);refine hK _ _ ?_;clear hK K)
  refine AWp.freeze 3 rfl rfl (AWp.weaken (sl':=[(2,.box 2 0),(3,.dptr (exC e) 0),(4,.box 4 0),(6,.box 6 0),(7,.d (.slice (paR fs))),(8,.d (.bool _))]) (bx':=[(2,.cells [.dptr (tabC p) 0]),(4,.cells [.d (.int .i64 0),.d (.str []),.d (.str []),.d .nil,.d (.int .i64 0),.d .nil,.d .nil,.d (.int .i64 0)]),(6,.cells (exS v))]) ⟨.inr (.inl rfl),.inr (.inl rfl),.inr (.inl rfl),.inr (.inl rfl),.inr (.inl rfl),.inr (.inl rfl),trivial⟩ ⟨rfl,rfl,rfl,trivial⟩ ?_)
  (refine AWp.seqR [0,1,2,3,4,5,6,7,8,9,37] [] (by decide +kernel) fun K hK=>?_;simp -implicitDefEqProofs only [EV,Nat.reduceAdd,Nat.reduceEqDiff,reduceCtorEq,];refine⟨_,.inl ⟨_,rfl,hx,rfl⟩,?_⟩;(try simp -implicitDefEqProofs only [EV,]);refine hK _ _ ?_;clear hK K)
  refine AWp.seqK fun K1 hK1=>?_
  (refine AWp.seqR [0,1,2,3,4,5,6,7,8,9,37] [] (by decide +kernel) fun K hK=>?_;simp -implicitDefEqProofs only [EV,Nat.reduceEqDiff,reduceCtorEq,];refine hK _ _ ?_;clear hK K)
  refine AWp.takeIfK rfl ?_
  (refine AWp.seqR [0,1,2,3,4,5,6,7,8,9,37] [] (by decide +kernel) fun K hK=>?_;simp -implicitDefEqProofs only [EV,Nat.reduceAdd,Nat.reduceEqDiff,reduceCtorEq,TF28,];refine hK _ _ ?_;clear hK K)
  exact AWp.ret ⟨_,by rw [Tryz.results99];rfl,rfl⟩
 ·by_cases hk0:k < 0
  ·rw [if_neg (fun hh=>by omega)]
   (refine CallOK.of_body Tryz.func99 rfl (by decide) (by rw [Tryz.ntmps99];simp) ?_;rw [Tryz.ntmps99])
   (refine AWp.seqR [0,1,2,3,4,5,6,7,8,9,37] [] (by decide +kernel) fun K hK=>?_;simp -implicitDefEqProofs only [EV,Nat.reduceAdd,Nat.reduceEqDiff,Nat.reduceBEq,Nat.reduceLeDiff,reduceCtorEq,TF28,];refine hK _ _ ?_;clear hK K)
   (refine AWp.seqR [0,1,2,3,4,5,6,7,8,9,37] [] (by decide +kernel) fun K hK=>?_;simp -implicitDefEqProofs only [EV,Nat.reduceEqDiff,Int.reduceLE,Int.reduceToNat,reduceCtorEq,TF26,TF28,];refine⟨_,exR_get h0,rfl,?_⟩;(try simp -implicitDefEqProofs only [EV,Nat.reduceAdd,Nat.reduceEqDiff,Nat.reduceBEq,Nat.reduceLeDiff,reduceCtorEq,TF28,]);refine hK _ _ ?_;clear hK K)
   (refine AWp.seqR [0,1,2,3,4,5,6,7,8,9,37] [] (by decide +kernel) fun K hK=>?_;simp -implicitDefEqProofs only [EV,Nat.reduceAdd,Nat.reduceEqDiff,Nat.reduceLeDiff,reduceCtorEq,TF25,TF28,TF56,TF95];refine⟨_,.inl ⟨_,rfl,hf,rfl⟩,?_⟩;(try simp -implicitDefEqProofs only [EV,Nat.reduceEqDiff,reduceCtorEq,]);refine hK _ _ ?_;clear hK K)
   refine AWp.freeze 3 rfl rfl (AWp.weaken (sl':=[(2,.box 2 0),(3,.dptr (exC e) 0),(4,.box 4 0),(6,.box 6 0),(7,.d (.slice (paR fs))),(8,.d (.bool _))]) (bx':=[(2,.cells [.dptr (tabC p) 0]),(4,.cells [.d (.int .i64 0),.d (.str []),.d (.str []),.d .nil,.d (.int .i64 0),.d .nil,.d .nil,.d (.int .i64 0)]),(6,.cells (exS v))]) ⟨.inr (.inl rfl),.inr (.inl rfl),.inr (.inl rfl),.inr (.inl rfl),.inr (.inl rfl),.inr (.inl rfl),trivial⟩ ⟨rfl,rfl,rfl,trivial⟩ ?_)
   (refine AWp.seqR [0,1,2,3,4,5,6,7,8,9,37] [] (by decide +kernel) fun K hK=>?_;simp -implicitDefEqProofs only [EV,Nat.reduceAdd,Nat.reduceEqDiff,reduceCtorEq,];refine⟨_,.inl ⟨_,rfl,hx,rfl⟩,?_⟩;(try simp -implicitDefEqProofs only [EV,]);refine hK _ _ ?_;clear hK K)
   refine AWp.seqK fun K1 hK1=>?_
   (refine AWp.seqR [0,1,2,3,4,5,6,7,8,9,37] [] (by decide +kernel) fun K hK=>?_;simp -implicitDefEqProofs only [EV,Nat.reduceEqDiff,reduceCtorEq,hk0];refine hK _ _ ?_;clear hK K)
   refine AWp.takeIfK rfl ?_
   (refine AWp.seqR [0,1,2,3,4,5,6,7,8,9,37] [] (by decide +kernel) fun K hK=>?_;simp -implicitDefEqProofs only [EV,Nat.reduceAdd,Nat.reduceEqDiff,reduceCtorEq,TF28,];refine hK _ _ ?_;clear hK K)
   exact AWp.ret ⟨_,by rw [Tryz.results99];rfl,rfl⟩
  ·by_cases hlt:k < v.kids.length
   ·have hge:¬ k ≥ (v.kids.length:Int):=by omega
    have hx2:v.kids[k.toNat]? = some v.kids[k.toNat]:=List.getElem?_eq_getElem (by omega)
    rw [if_pos ⟨rfl,by omega,hlt⟩,hx2,Option.getD_some]
    generalize v.kids[k.toNat]=u at *
    (refine CallOK.of_body Tryz.func99 rfl (by decide) (by rw [Tryz.ntmps99];simp) ?_;rw [Tryz.ntmps99])
    (refine AWp.seqR [0,1,2,3,4,5,6,7,8,9,37] [] (by decide +kernel) fun K hK=>?_;simp -implicitDefEqProofs only [EV,Nat.reduceAdd,Nat.reduceEqDiff,Nat.reduceBEq,Nat.reduceLeDiff,reduceCtorEq,TF28,];refine hK _ _ ?_;clear hK K)
    (refine AWp.seqR [0,1,2,3,4,5,6,7,8,9,37] [] (by decide +kernel) fun K hK=>?_;simp -implicitDefEqProofs only [EV,Nat.reduceEqDiff,Int.reduceLE,Int.reduceToNat,reduceCtorEq,TF26,TF28,];refine⟨_,exR_get h0,rfl,?_⟩;(try simp -implicitDefEqProofs only [EV,Nat.reduceAdd,Nat.reduceEqDiff,Nat.reduceBEq,Nat.reduceLeDiff,reduceCtorEq,TF28,]);refine hK _ _ ?_;clear hK K)
    (refine AWp.seqR [0,1,2,3,4,5,6,7,8,9,37] [] (by decide +kernel) fun K hK=>?_;simp -implicitDefEqProofs only [EV,Nat.reduceAdd,Nat.reduceEqDiff,Nat.reduceLeDiff,reduceCtorEq,TF25,TF28,TF56,TF95];refine⟨_,.inl ⟨_,rfl,hf,rfl⟩,?_⟩;(try simp -implicitDefEqProofs only [EV,Nat.reduceEqDiff,reduceCtorEq,]);refine hK _ _ ?_;clear hK K)
    refine AWp.freeze 3 rfl rfl (AWp.weaken (sl':=[(2,.box 2 0),(3,.dptr (exC e) 0),(4,.box 4 0),(6,.box 6 0),(7,.d (.slice (paR fs))),(8,.d (.bool _))]) (bx':=[(2,.cells [.dptr (tabC p) 0]),(4,.cells [.d (.int .i64 0),.d (.str []),.d (.str []),.d .nil,.d (.int .i64 0),.d .nil,.d .nil,.d (.int .i64 0)]),(6,.cells (exS v))]) ⟨.inr (.inl rfl),.inr (.inl rfl),.inr (.inl rfl),.inr (.inl rfl),.inr (.inl rfl),.inr (.inl rfl),trivial⟩ ⟨rfl,rfl,rfl,trivial⟩ ?_)
    (refine AWp.seqR [0,1,2,3,4,5,6,7,8,9,37] [] (by decide +kernel) fun K hK=>?_;simp -implicitDefEqProofs only [EV,Nat.reduceAdd,Nat.reduceEqDiff,reduceCtorEq,];refine⟨_,.inl ⟨_,rfl,hx,rfl⟩,?_⟩;(try simp -implicitDefEqProofs only [EV,]);refine hK _ _ ?_;clear hK K)
    refine AWp.seqK fun K1 hK1=>?_
    (refine AWp.seqR [0,1,2,3,4,5,6,7,8,9,37] [] (by decide +kernel) fun K hK=>?_;simp -implicitDefEqProofs only [EV,Nat.reduceEqDiff,reduceCtorEq,TF26,TF28,hk0,hge];refine hK _ _ ?_;clear hK K)
    refine AWp.skipIfK rfl hK1 ?_
    clear hK1 K1
    (refine AWp.seqR [0,1,2,3,4,5,6,7,8,9,37] [] (by decide +kernel) fun K hK=>?_;simp -implicitDefEqProofs only [EV,Nat.reduceEqDiff,reduceCtorEq,TF26,TF28,];refine⟨by omega,_,exR_get hx2,rfl,?_⟩;(try simp -implicitDefEqProofs only [EV,Nat.reduceAdd,Nat.reduceEqDiff,reduceCtorEq,TF28,]);refine hK _ _ ?_;clear hK K)
    exact AWp.ret ⟨_,by rw [Tryz.results99];rfl,rfl⟩
   ·have hge:k ≥ (v.kids.length:Int):=by omega
    rw [if_neg (fun hh=>hlt hh.2.2)]
    (refine CallOK.of_body Tryz.func99 rfl (by decide) (by rw [Tryz.ntmps99];simp) ?_;rw [Tryz.ntmps99])
    (refine AWp.seqR [0,1,2,3,4,5,6,7,8,9,37] [] (by decide +kernel) fun K hK=>?_;simp -implicitDefEqProofs only [EV,Nat.reduceAdd,Nat.reduceEqDiff,Nat.reduceBEq,Nat.reduceLeDiff,reduceCtorEq,TF28,];refine hK _ _ ?_;clear hK K)
    (refine AWp.seqR [0,1,2,3,4,5,6,7,8,9,37] [] (by decide +kernel) fun K hK=>?_;simp -implicitDefEqProofs only [EV,Nat.reduceEqDiff,Int.reduceLE,Int.reduceToNat,reduceCtorEq,TF26,TF28,];refine⟨_,exR_get h0,rfl,?_⟩;(try simp -implicitDefEqProofs only [EV,Nat.reduceAdd,Nat.reduceEqDiff,Nat.reduceBEq,Nat.reduceLeDiff,reduceCtorEq,TF28,]);refine hK _ _ ?_;clear hK K)
    (refine AWp.seqR [0,1,2,3,4,5,6,7,8,9,37] [] (by decide +kernel) fun K hK=>?_;simp -implicitDefEqProofs only [EV,Nat.reduceAdd,Nat.reduceEqDiff,Nat.reduceLeDiff,reduceCtorEq,TF25,TF28,TF56,TF95];refine⟨_,.inl ⟨_,rfl,hf,rfl⟩,?_⟩;(try simp -implicitDefEqProofs only [EV,Nat.reduceEqDiff,reduceCtorEq,]);refine hK _ _ ?_;clear hK K)
    refine AWp.freeze 3 rfl rfl (AWp.weaken (sl':=[(2,.box 2 0),(3,.dptr (exC e) 0),(4,.box 4 0),(6,.box 6 0),(7,.d (.slice (paR fs))),(8,.d (.bool _))]) (bx':=[(2,.cells [.dptr (tabC p) 0]),(4,.cells [.d (.int .i64 0),.d (.str []),.d (.str []),.d .nil,.d (.int .i64 0),.d .nil,.d .nil,.d (.int .i64 0)]),(6,.cells (exS v))]) ⟨.inr (.inl rfl),.inr (.inl rfl),.inr (.inl rfl),.inr (.inl rfl),.inr (.inl rfl),.inr (.inl rfl),trivial⟩ ⟨rfl,rfl,rfl,trivial⟩ ?_)
    (refine AWp.seqR [0,1,2,3,4,5,6,7,8,9,37] [] (by decide +kernel) fun K hK=>?_;simp -implicitDefEqProofs only [EV,Nat.reduceAdd,Nat.reduceEqDiff,reduceCtorEq,];refine⟨_,.inl ⟨_,rfl,hx,rfl⟩,?_⟩;(try simp -implicitDefEqProofs only [EV,]);refine hK _ _ ?_;clear hK K)
    refine AWp.seqK fun K1 hK1=>?_
    (refine AWp.seqR [0,1,2,3,4,5,6,7,8,9,37] [] (by decide +kernel) fun K hK=>?_;simp -implicitDefEqProofs only [EV,Nat.reduceEqDiff,reduceCtorEq,TF26,TF28,hk0,hge];refine hK _ _ ?_;clear hK K)
    refine AWp.takeIfK rfl ?_
    (refine AWp.seqR [0,1,2,3,4,5,6,7,8,9,37] [] (by decide +kernel) fun K hK=>?_;simp -implicitDefEqProofs only [EV,Nat.reduceAdd,Nat.reduceEqDiff,reduceCtorEq,TF28,];refine hK _ _ ?_;clear hK K)
    exact AWp.ret ⟨_,by rw [Tryz.results99];rfl,rfl⟩
end Go.Abs

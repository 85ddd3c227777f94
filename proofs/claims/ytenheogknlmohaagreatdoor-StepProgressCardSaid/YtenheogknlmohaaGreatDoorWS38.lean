/- step: selection, call, assertion; what a redex becomes -/
import Derived.Test.YtenheogknlmohaaGreatDoorWS25
import Derived.Test.YtenheogknlmohaaGreatDoorWS36
import Derived.Test.YtenheogknlmohaaGreatDoorWAb10
namespace Go.Abs
set_option linter.unusedSimpArgs false
set_option linter.unusedVariables false
open Go Go.Proofs
set_option maxRecDepth 100000
set_option maxHeartbeats 1000000
abbrev maV (p:Prog):SV:=.agg [.dptr (tabC p) 0]
def selE (p:Prog)(e v:Ex):Ex × Int :=
 if instB p v.type 1=true∧0≤idxF (fun f:Param=>decide (f.name=e.name)) (fieldsT p v.type)∧idxF (fun f:Param=>decide (f.name=e.name)) (fieldsT p v.type) < v.kids.length then
  ((v.kids[(idxF (fun f:Param=>decide (f.name=e.name)) (fieldsT p v.type)).toNat]?).getD v,1) else (e,4)
def asrtE (p:Prog)(e v:Ex):Ex × Int:=if implB p [] v.type e.type=true then (v,1) else (e,3)
def calledE (e v:Ex)(d:Decl):Ex:=(d.body.subst (d.vars++fnames d.sig.formals) (v.type.args++e.targs)).repl (d.recv::d.sig.params.map (·.name)) e.kids
def callE (p:Prog)(e v:Ex):Ex × Int:=match methD p v.type e.name with
 | none=>(e,4)
 | some d=>if d.sig.formals.length=e.targs.length∧d.sig.params.length+1=e.kids.length then (calledE e v d,1) else (e,4)
abbrev resV (r:Ex × Int):SV:=.tuple [exV r.1,intV r.2]
theorem methD_mem {p:Prog} {x:Ty} {m:Str} {d:Decl} (h:methD p x m=some d):d∈p.decls:=by
 unfold methD at h
 split at h
 ·split at h
  ·rename_i hf
   split at h
   ·cases h;exact List.mem_of_find?_eq_some hf
   ·cases h
  ·cases h
 ·cases h
abbrev q1V:List Nat:=[0,1,2,3,4,5,6,18]
theorem ok_assertion (p:Prog)(h:p.Sm)(e v:Ex)(he:e.Sm)(h0:e.kids[0]? = some v):CallOK Tryz.prog 100 [maV p,exV e] (resV (asrtE p e v)):=by
 have hv:=he.kids.2 v (List.mem_of_getElem? h0)
 have hi:=ok_Implements p h [] (by simp) (by simp) v.type e.type hv.type he.type
 unfold asrtE
 generalize implB p [] v.type e.type=b at *
 cases b
 ·rw [if_neg (by decide)]
  (refine CallOK.of_body Tryz.func100 rfl (by decide) (by rw [Tryz.ntmps100];simp) ?_;rw [Tryz.ntmps100])
  refine sR q1V ?_
  (refine sQ q1V fun K hK=>?_;refine ev ?_;refine⟨_,exR_get h0,rfl,?_⟩;(try refine ev ?_);apply hK;clear hK K)
  refine AWp.seqK fun K1 hK1=>?_
  (refine sQ q1V fun K hK=>?_;refine ev ?_;refine⟨_,.inl ⟨_,rfl,hi,rfl⟩,?_⟩;(try refine ev ?_);apply hK;clear hK K)
  refine AWp.takeIfK rfl ?_
  refine sR q1V ?_
  exact AWp.ret ⟨_,by rw [Tryz.results100];rfl,rfl⟩
 ·rw [if_pos rfl]
  (refine CallOK.of_body Tryz.func100 rfl (by decide) (by rw [Tryz.ntmps100];simp) ?_;rw [Tryz.ntmps100])
  refine sR q1V ?_
  (refine sQ q1V fun K hK=>?_;refine ev ?_;refine⟨_,exR_get h0,rfl,?_⟩;(try refine ev ?_);apply hK;clear hK K)
  refine AWp.seqK fun K1 hK1=>?_
  (refine sQ q1V fun K hK=>?_;refine ev ?_;refine⟨_,.inl ⟨_,rfl,hi,rfl⟩,?_⟩;(try refine ev ?_);apply hK;clear hK K)
  refine AWp.skipIfK rfl hK1 ?_
  refine sR q1V ?_
  exact AWp.ret ⟨_,by rw [Tryz.results100];rfl,rfl⟩
theorem fieldsT_len {p:Prog} (h:p.Sm)(x:Ty):(fieldsT p x).length≤sm:=by
 unfold fieldsT
 split
 ·rename_i hi
  obtain⟨d,hd,_⟩:=inst_decl (by decide) hi
  rw [hd,Option.getD_some]
  unfold fieldsD
  rw [List.length_map]
  exact (h.decls.2 d (declT_mem hd)).fields.1
 ·simp
abbrev q2V:List Nat:=[0,1,2,3,4,5,6,7,8,9,37]
theorem ok_selection (p:Prog)(h:p.Sm)(e v:Ex)(he:e.Sm)(h0:e.kids[0]? = some v):CallOK Tryz.prog 99 [maV p,exV e] (resV (selE p e v)):=by
 have hv:=he.kids.2 v (List.mem_of_getElem? h0)
 have hf:=ok_TFields p h v.type hv.type
 have h1:∀ f:Param,CallOK Tryz.prog 150 [paV f,.dptr (exC e) 0] (boolV (decide (f.name=e.name))):=fun f=>by
  (refine CallOK.of_body Tryz.func150 rfl (by decide) (by rw [Tryz.ntmps150];simp) ?_;rw [Tryz.ntmps150])
  refine sR [0,1,2,3] ?_
  refine sR [0,1,2,3] ?_
  exact AWp.ret ⟨_,by rw [Tryz.results150];rfl,rfl⟩
 have hx:=ok_IndexFuncP 150 [.dptr (exC e) 0] (fun _=>rfl) (fun f:Param=>decide (f.name=e.name)) (fieldsT p v.type) (fieldsT_len h v.type) (fun t _=>h1 t)
 unfold selE
 generalize idxF (fun f:Param=>decide (f.name=e.name)) (fieldsT p v.type)=k at *
 generalize fieldsT p v.type=fs at *
 generalize instB p v.type 1=bb at *
 cases bb
 ·rw [if_neg (fun hh=>by cases hh.1)]
  (refine CallOK.of_body Tryz.func99 rfl (by decide) (by rw [Tryz.ntmps99];simp) ?_;rw [Tryz.ntmps99])
  refine sR q2V ?_
  (refine sQ q2V fun K hK=>?_;refine ev ?_;refine⟨_,exR_get h0,rfl,?_⟩;(try refine ev ?_);apply hK;clear hK K)
  (refine sQ q2V fun K hK=>?_;refine ev ?_;refine⟨_,.inl ⟨_,rfl,hf,rfl⟩,?_⟩;(try refine ev ?_);apply hK;clear hK K)
  refine AWp.freeze 3 rfl rfl (AWp.weaken (sl':=[(2,.box 2 0),(3,.dptr (exC e) 0),(4,.box 4 0),(6,.box 6 0),(7,.d (.slice (paR fs))),(8,.d (.bool _))]) (bx':=[(2,.cells [.dptr (tabC p) 0]),(4,.cells [.d (.int .i64 0),.d (.str []),.d (.str []),.d .nil,.d (.int .i64 0),.d .nil,.d .nil,.d (.int .i64 0)]),(6,.cells (exS v))]) ⟨.inr (.inl rfl),.inr (.inl rfl),.inr (.inl rfl),.inr (.inl rfl),.inr (.inl rfl),.inr (.inl rfl),trivial⟩ ⟨rfl,rfl,rfl,trivial⟩ ?_)
  (refine sQ q2V fun K hK=>?_;refine ev ?_;refine⟨_,.inl ⟨_,rfl,hx,rfl⟩,?_⟩;(try refine ev ?_);apply hK;clear hK K)
  refine AWp.seqK fun K1 hK1=>?_
  refine sR q2V ?_
  refine AWp.takeIfK rfl ?_
  refine sR q2V ?_
  exact AWp.ret ⟨_,by rw [Tryz.results99];rfl,rfl⟩
 ·by_cases hk0:k < 0
  ·rw [if_neg (fun hh=>by omega)]
   (refine CallOK.of_body Tryz.func99 rfl (by decide) (by rw [Tryz.ntmps99];simp) ?_;rw [Tryz.ntmps99])
   refine sR q2V ?_
   (refine sQ q2V fun K hK=>?_;refine ev ?_;refine⟨_,exR_get h0,rfl,?_⟩;(try refine ev ?_);apply hK;clear hK K)
   (refine sQ q2V fun K hK=>?_;refine ev ?_;refine⟨_,.inl ⟨_,rfl,hf,rfl⟩,?_⟩;(try refine ev ?_);apply hK;clear hK K)
   refine AWp.freeze 3 rfl rfl (AWp.weaken (sl':=[(2,.box 2 0),(3,.dptr (exC e) 0),(4,.box 4 0),(6,.box 6 0),(7,.d (.slice (paR fs))),(8,.d (.bool _))]) (bx':=[(2,.cells [.dptr (tabC p) 0]),(4,.cells [.d (.int .i64 0),.d (.str []),.d (.str []),.d .nil,.d (.int .i64 0),.d .nil,.d .nil,.d (.int .i64 0)]),(6,.cells (exS v))]) ⟨.inr (.inl rfl),.inr (.inl rfl),.inr (.inl rfl),.inr (.inl rfl),.inr (.inl rfl),.inr (.inl rfl),trivial⟩ ⟨rfl,rfl,rfl,trivial⟩ ?_)
   (refine sQ q2V fun K hK=>?_;refine ev ?_;refine⟨_,.inl ⟨_,rfl,hx,rfl⟩,?_⟩;(try refine ev ?_);apply hK;clear hK K)
   refine AWp.seqK fun K1 hK1=>?_
   (refine sQ q2V fun K hK=>?_;refine ev1 hk0 ?_;apply hK;clear hK K)
   refine AWp.takeIfK rfl ?_
   refine sR q2V ?_
   exact AWp.ret ⟨_,by rw [Tryz.results99];rfl,rfl⟩
  ·by_cases hlt:k < v.kids.length
   ·have hge:¬ k ≥ (v.kids.length:Int):=by omega
    have hx2:v.kids[k.toNat]? = some v.kids[k.toNat]:=List.getElem?_eq_getElem (by omega)
    rw [if_pos ⟨rfl,by omega,hlt⟩,hx2,Option.getD_some]
    generalize v.kids[k.toNat]=u at *
    (refine CallOK.of_body Tryz.func99 rfl (by decide) (by rw [Tryz.ntmps99];simp) ?_;rw [Tryz.ntmps99])
    refine sR q2V ?_
    (refine sQ q2V fun K hK=>?_;refine ev ?_;refine⟨_,exR_get h0,rfl,?_⟩;(try refine ev ?_);apply hK;clear hK K)
    (refine sQ q2V fun K hK=>?_;refine ev ?_;refine⟨_,.inl ⟨_,rfl,hf,rfl⟩,?_⟩;(try refine ev ?_);apply hK;clear hK K)
    refine AWp.freeze 3 rfl rfl (AWp.weaken (sl':=[(2,.box 2 0),(3,.dptr (exC e) 0),(4,.box 4 0),(6,.box 6 0),(7,.d (.slice (paR fs))),(8,.d (.bool _))]) (bx':=[(2,.cells [.dptr (tabC p) 0]),(4,.cells [.d (.int .i64 0),.d (.str []),.d (.str []),.d .nil,.d (.int .i64 0),.d .nil,.d .nil,.d (.int .i64 0)]),(6,.cells (exS v))]) ⟨.inr (.inl rfl),.inr (.inl rfl),.inr (.inl rfl),.inr (.inl rfl),.inr (.inl rfl),.inr (.inl rfl),trivial⟩ ⟨rfl,rfl,rfl,trivial⟩ ?_)
    (refine sQ q2V fun K hK=>?_;refine ev ?_;refine⟨_,.inl ⟨_,rfl,hx,rfl⟩,?_⟩;(try refine ev ?_);apply hK;clear hK K)
    refine AWp.seqK fun K1 hK1=>?_
    (refine sQ q2V fun K hK=>?_;refine ev2 hk0 hge ?_;apply hK;clear hK K)
    refine AWp.skipIfK rfl hK1 ?_
    clear hK1 K1
    (refine sQ q2V fun K hK=>?_;refine ev ?_;refine⟨by omega,_,exR_get hx2,rfl,?_⟩;(try refine ev ?_);apply hK;clear hK K)
    exact AWp.ret ⟨_,by rw [Tryz.results99];rfl,rfl⟩
   ·have hge:k ≥ (v.kids.length:Int):=by omega
    rw [if_neg (fun hh=>hlt hh.2.2)]
    (refine CallOK.of_body Tryz.func99 rfl (by decide) (by rw [Tryz.ntmps99];simp) ?_;rw [Tryz.ntmps99])
    refine sR q2V ?_
    (refine sQ q2V fun K hK=>?_;refine ev ?_;refine⟨_,exR_get h0,rfl,?_⟩;(try refine ev ?_);apply hK;clear hK K)
    (refine sQ q2V fun K hK=>?_;refine ev ?_;refine⟨_,.inl ⟨_,rfl,hf,rfl⟩,?_⟩;(try refine ev ?_);apply hK;clear hK K)
    refine AWp.freeze 3 rfl rfl (AWp.weaken (sl':=[(2,.box 2 0),(3,.dptr (exC e) 0),(4,.box 4 0),(6,.box 6 0),(7,.d (.slice (paR fs))),(8,.d (.bool _))]) (bx':=[(2,.cells [.dptr (tabC p) 0]),(4,.cells [.d (.int .i64 0),.d (.str []),.d (.str []),.d .nil,.d (.int .i64 0),.d .nil,.d .nil,.d (.int .i64 0)]),(6,.cells (exS v))]) ⟨.inr (.inl rfl),.inr (.inl rfl),.inr (.inl rfl),.inr (.inl rfl),.inr (.inl rfl),.inr (.inl rfl),trivial⟩ ⟨rfl,rfl,rfl,trivial⟩ ?_)
    (refine sQ q2V fun K hK=>?_;refine ev ?_;refine⟨_,.inl ⟨_,rfl,hx,rfl⟩,?_⟩;(try refine ev ?_);apply hK;clear hK K)
    refine AWp.seqK fun K1 hK1=>?_
    (refine sQ q2V fun K hK=>?_;refine ev2 hk0 hge ?_;apply hK;clear hK K)
    refine AWp.takeIfK rfl ?_
    refine sR q2V ?_
    exact AWp.ret ⟨_,by rw [Tryz.results99];rfl,rfl⟩
end Go.Abs
/- step: a call of a method -/
namespace Go.Abs
set_option linter.unusedSimpArgs false
set_option linter.unusedVariables false
open Go Go.Proofs
set_option maxRecDepth 100000
set_option maxHeartbeats 1000000
abbrev q1jx:List Nat:=[0,1,2,3,4,5,6,7,8,9,10,11,13,50,54,59,73,76,77,78,79]
theorem ok_call (p:Prog)(h:p.Sm)(e v:Ex)(he:e.Sm)(h0:e.kids[0]? = some v):CallOK Tryz.prog 98 [maV p,exV e] (resV (callE p e v)):=by
 have hv:=he.kids.2 v (List.mem_of_getElem? h0)
 have hm:=ok_TMethod p h v.type hv.type e.name he.name
 have hkl:=he.kids.1
 unfold callE
 cases hd:methD p v.type e.name with
 | none =>
  rw [hd] at hm
  simp only [Option.getD_none,Option.isSome_none] at hm ⊢
  (refine CallOK.of_body Tryz.func98 rfl (by decide) (by rw [Tryz.ntmps98];simp) ?_;rw [Tryz.ntmps98])
  refine sR q1jx ?_
  (refine sQ q1jx fun K hK=>?_;refine ev ?_;refine⟨_,exR_get h0,rfl,?_⟩;(try refine ev ?_);apply hK;clear hK K)
  (refine sQ q1jx fun K hK=>?_;refine ev ?_;refine⟨_,.inl ⟨_,rfl,hm,rfl⟩,?_⟩;(try refine ev ?_);apply hK;clear hK K)
  refine AWp.seqK fun K1 hK1=>?_
  refine sR q1jx ?_
  refine AWp.takeIfK rfl ?_
  refine sR q1jx ?_
  exact AWp.ret ⟨_,by rw [Tryz.results98];rfl,rfl⟩
 | some d =>
  rw [hd] at hm
  simp only [Option.getD_some,Option.isSome_some] at hm ⊢
  have hds:=h.decls.2 d (methD_mem hd)
  by_cases hl1:d.sig.formals.length=e.targs.length
  ·have hl1':(d.sig.formals.length:Int)=e.targs.length:=by omega
   by_cases hl2:d.sig.params.length+1=e.kids.length
   ·have hl2':(d.sig.params.length:Int)=e.kids.length - 1:=by omega
    rw [if_pos ⟨hl1,hl2⟩]
    (refine CallOK.of_body Tryz.func98 rfl (by decide) (by rw [Tryz.ntmps98];simp) ?_;rw [Tryz.ntmps98])
    refine sR q1jx ?_
    (refine sQ q1jx fun K hK=>?_;refine ev ?_;refine⟨_,exR_get h0,rfl,?_⟩;(try refine ev ?_);apply hK;clear hK K)
    (refine sQ q1jx fun K hK=>?_;refine ev ?_;refine⟨_,.inl ⟨_,rfl,hm,rfl⟩,?_⟩;(try refine ev ?_);apply hK;clear hK K)
    refine AWp.seqK fun K1 hK1=>?_
    (refine sQ q1jx fun K hK=>?_;refine ev2 hl1' hl2' ?_;refine⟨by first | (unfold InR;omega) | (simp only [InR,sm] at *;omega),?_⟩;(try refine ev2 hl1' hl2' ?_);apply hK;clear hK K)
    refine AWp.skipIfK rfl hK1 ?_
    clear hK1 K1
    have hcl:=ok_CloneS d.vars hds.vars.1
    have hnm:=ok_Names d.sig.formals hds.sig.formals.1
    have hct:=ok_ConcatT [v.type.args,e.targs] (show 2≤sm by decide) (by simp only [List.map_cons,List.map_nil,List.sum_cons,List.sum_nil];have:=hv.type.len;have:=he.targs.1;omega)
    rw [show [v.type.args,e.targs].flatten=v.type.args++e.targs by simp] at hct
    have hargs:∀ u,u∈v.type.args++e.targs→u.Sm:=fun u hu=>(List.mem_append.1 hu).elim (hv.type.arg u) (he.targs.2 u)
    have hsub:=ok_ESubst (d.vars++fnames d.sig.formals) (v.type.args++e.targs) hargs d.body hds.body
    have hsm:=Ex.Sm.subst (vars:=d.vars++fnames d.sig.formals) hargs d.body hds.body
    unfold calledE
    generalize d.body.subst (d.vars++fnames d.sig.formals) (v.type.args++e.targs)=body at *
    have hrep:=ok_EReplace (d.recv::d.sig.params.map (·.name)) e.kids he.kids.2 body hsm
    rw [strsV,strR_append] at hsub
    have hvl:=hds.vars.1
    have hfl:=hds.sig.formals.1
    have hpl:=hds.sig.params.1
    have hfn:(fnames d.sig.formals).length=d.sig.formals.length:=by simp [fnames]
    rw [show d.sig.formals.map (fun f=>f.name)=fnames d.sig.formals from rfl] at hnm
    generalize fnames d.sig.formals=ns at *
    (refine AWp.seqDC [0,1,2,3,4,5,6,7,8,9,10,11,13,50,54,59,73,76,77,78,79] [54] 8 54 59 2 [2,7] [] (.acc 54) rfl mixed (by decide +kernel) (by decide +kernel) (by decide +kernel) (by decide) ⟨7,by decide,by decide,by decide,rfl⟩ (by simp) rfl fun K hK=>?_;refine ev ?_;refine chV_step0 (dst:=some 54) (e:=7) (i1:=3) (f:=(.acc 54)) (ps:=[54]) rfl rfl rfl rfl rfl rfl ?_;(try refine ev ?_);refine⟨_,_,_,_,_,rfl,hcl,?_⟩;(try refine ev ?_);refine chK_ok rfl (by simp) ?_;(try refine ev ?_);refine⟨_,.inl ⟨_,rfl,hnm,rfl⟩,?_⟩;(try refine ev ?_);refine chV_step1 (dst:=some 59) (e:=8) (i1:=8) (f:=(.acc 54)) (ps:=[54]) rfl rfl rfl rfl rfl rfl ?_;(try refine ev ?_);refine⟨strR_row _,by unfold lim sm at *;omega,?_⟩;(try refine ev ?_);refine chK_ok rfl (by simp) ?_;(try refine ev ?_);refine chV_end rfl ?_;(try refine ev ?_);apply hK;clear hK K)
    refine AWp.publish 54 rfl (AWp.weaken (sl':=[(3,.box 3 0),(4,.box 4 0),(6,.box 6 0),(7,.box 7 0),(9,.d (.slice (strR d.vars++strR ns)))]) (bx':=[(3,.cells (exS e)),(4,.cells [.d (.int .i64 0),.d (.str []),.d (.str []),.d .nil,.d (.int .i64 0),.d .nil,.d .nil,.d (.int .i64 0)]),(6,.cells (exS v)),(7,.cells ((deC d).map .d))])
     ⟨.inr (.inl rfl),.inr (.inl rfl),.inr (.inl rfl),.inr (.inl rfl),.inr (.inl rfl),trivial⟩ ⟨rfl,rfl,rfl,rfl,trivial⟩ ?_)
    (refine AWp.seqDL [0,1,2,3,4,5,6,7,8,9,10,11,13,50,54,59,73,76,77,78,79] [] 12 11 10 28 _ mixed (by decide +kernel) (by decide +kernel) ⟨by decide,⟨_,rfl,rfl,rfl,rfl⟩,by decide,(by first | exact TF28.2.2.1 | simp only [TF28])⟩ fun K hK=>?_;refine ev ?_;refine⟨_,.inl ⟨_,rfl,hct,rfl⟩,?_⟩;(try refine ev ?_);refine⟨_,.inl ⟨_,rfl,hsub,rfl⟩,?_⟩;(try refine ev ?_);apply hK;clear hK K)
    (refine AWp.seqR q1jx [73] (by decide +kernel) fun K hK=>?_;refine ev ?_;apply hK;clear hK K)
    refine AWp.seqK fun K1 hK1=>?_
    refine sR q1jx ?_
    refine AWp.block (AWp.forIdx d.sig.params (X:=Unit) (fun j _=>[(3,.box 3 0),(4,.box 4 0),(10,.box 10 0),(11,.acc 73),(76,.d (.slice (paR d.sig.params))),(77,intV d.sig.params.length),(78,intV j)])
     (fun j _=>[(3,.cells (exS e)),(4,.cells [.d (.int .i64 0),.d (.str []),.d (.str []),.d .nil,.d (.int .i64 0),.d .nil,.d .nil,.d (.int .i64 0)]),(10,.cells (exS body)),(73,.rows 1 (strR (d.recv::(d.sig.params.take j).map (·.name))))])
     (fun j _=>True) () trivial (by simp [sle,vle,sget]) (by simp [ble,bget,strR,exS]) ?_ ?_)
    ·intro _ _
     rw [List.take_length]
     (refine sQ q1jx fun K hK=>?_;simp -implicitDefEqProofs only [EV,Nat.reduceEqDiff,reduceCtorEq,Int.lt_irrefl];apply hK;clear hK K)
     refine AWp.stop rfl ?_
     simp only [thenA,blockA,if_true]
     refine hK1 _ _ ?_
     refine AWp.publish 73 rfl (AWp.weaken (sl':=[(3,.box 3 0),(4,.box 4 0),(10,.box 10 0),(11,.d (.slice (strR (d.recv::d.sig.params.map (·.name)))))]) (bx':=[(3,.cells (exS e)),(4,.cells [.d (.int .i64 0),.d (.str []),.d (.str []),.d .nil,.d (.int .i64 0),.d .nil,.d .nil,.d (.int .i64 0)]),(10,.cells (exS body))])
      ⟨.inr (.inl rfl),.inr (.inl rfl),.inr (.inl rfl),.inr (.inl rfl),trivial⟩ ⟨rfl,rfl,rfl,trivial⟩ ?_)
     (refine sQ q1jx fun K hK=>?_;refine ev ?_;refine⟨_,.inl ⟨_,rfl,hrep,rfl⟩,?_⟩;(try refine ev ?_);apply hK;clear hK K)
     exact AWp.ret ⟨_,by rw [Tryz.results98];rfl,rfl⟩
    ·intro j _ f hf hmem hdrop htake hlt _
     rw [htake]
     (refine sQ q1jx fun K hK=>?_;refine ev1 hlt ?_;apply hK;clear hK K)
     refine AWp.goOn rfl ?_
     refine AWp.seqK fun K2 hK2=>?_
     refine AWp.block ?_
     (refine sQ q1jx fun K hK=>?_;refine ev ?_;refine⟨by omega,_,paR_get hf,rfl,?_⟩;(try refine ev ?_);apply hK;clear hK K)
     (refine lQ q1jx fun K hK=>?_;refine ev ?_;refine⟨by simp,by simp only [List.length_map,List.length_take];unfold lim sm at *;omega,?_⟩;(try refine ev ?_);apply hK;clear hK K;try simp only [thenA,blockA])
     refine hK2 _ _ ?_
     clear hK2 K2
     (refine lQ q1jx fun K hK=>?_;refine ev ?_;refine⟨by first | (unfold InR;omega) | (simp only [InR,sm] at *;omega),?_⟩;(try refine ev ?_);apply hK;clear hK K;try simp only [thenA,])
     exact⟨(),trivial,(by simp [sle,vle,sget]),by simp [ble,bget,strR,exS]⟩
   ·have hl2':¬ (d.sig.params.length:Int)=e.kids.length - 1:=by omega
    rw [if_neg (fun hh=>hl2 hh.2)]
    (refine CallOK.of_body Tryz.func98 rfl (by decide) (by rw [Tryz.ntmps98];simp) ?_;rw [Tryz.ntmps98])
    refine sR q1jx ?_
    (refine sQ q1jx fun K hK=>?_;refine ev ?_;refine⟨_,exR_get h0,rfl,?_⟩;(try refine ev ?_);apply hK;clear hK K)
    (refine sQ q1jx fun K hK=>?_;refine ev ?_;refine⟨_,.inl ⟨_,rfl,hm,rfl⟩,?_⟩;(try refine ev ?_);apply hK;clear hK K)
    refine AWp.seqK fun K1 hK1=>?_
    (refine sQ q1jx fun K hK=>?_;refine ev2 hl1' hl2' ?_;refine⟨by first | (unfold InR;omega) | (simp only [InR,sm] at *;omega),?_⟩;(try refine ev2 hl1' hl2' ?_);apply hK;clear hK K)
    refine AWp.takeIfK rfl ?_
    refine sR q1jx ?_
    exact AWp.ret ⟨_,by rw [Tryz.results98];rfl,rfl⟩
  ·have hl1':¬ (d.sig.formals.length:Int)=e.targs.length:=by omega
   rw [if_neg (fun hh=>hl1 hh.1)]
   (refine CallOK.of_body Tryz.func98 rfl (by decide) (by rw [Tryz.ntmps98];simp) ?_;rw [Tryz.ntmps98])
   refine sR q1jx ?_
   (refine sQ q1jx fun K hK=>?_;refine ev ?_;refine⟨_,exR_get h0,rfl,?_⟩;(try refine ev ?_);apply hK;clear hK K)
   (refine sQ q1jx fun K hK=>?_;refine ev ?_;refine⟨_,.inl ⟨_,rfl,hm,rfl⟩,?_⟩;(try refine ev ?_);apply hK;clear hK K)
   refine AWp.seqK fun K1 hK1=>?_
   (refine sQ q1jx fun K hK=>?_;refine ev1 hl1' ?_;apply hK;clear hK K)
   refine AWp.takeIfK rfl ?_
   refine sR q1jx ?_
   exact AWp.ret ⟨_,by rw [Tryz.results98];rfl,rfl⟩
end Go.Abs

/- step: selection, call, assertion; what a redex becomes -/
import Derived.Test.YtbhbfpjnenekpaaGreatDoorUS25
import Derived.Test.YtbhbfpjnenekpaaGreatDoorUS36
import Derived.Test.YtbhbfpjnenekpaaGreatDoorUAb16
namespace Go.Abs
set_option linter.unusedSimpArgs false
set_option linter.unusedVariables false
open Go Go.Proofs Tryz
set_option maxRecDepth 100000
set_option maxHeartbeats 1000000
abbrev maV (p:Prog):SV:=.agg [.dptr (tabC p) 0]
def selE (p:Prog)(e v:Ex):Ex × Int :=
 if instB p v.type 1=true∧0≤idxF (fun f:Param=>decide (f.name=e.name)) (fieldsT p v.type)∧idxF (fun f:Param=>decide (f.name=e.name)) (fieldsT p v.type) < v.kids.length then
  ((v.kids[(idxF (fun f:Param=>decide (f.name=e.name)) (fieldsT p v.type)).toNat]?).getD v,1) else (e,4)
def asrtE (p:Prog)(e v:Ex):Ex × Int:=if implB p [] v.type e.type=true then (v,1) else (e,3)
def calledE (e v:Ex)(d:Decl):Ex:=(d.body.subst (d.vars++fnames d.sig.formals) (v.type.args++e.targs)).repl (d.recv::d.sig.params.map (·.name)) e.kids
def callE (p:Prog)(e v:Ex):Ex × Int:=match methD p v.type e.name with
 | none=>(e,4)
 | some d=>if d.sig.formals.length=e.targs.length∧d.sig.params.length+1=e.kids.length then (calledE e v d,1) else (e,4)
abbrev resV (r:Ex × Int):SV:=.tuple [exV r.1,intV r.2]
theorem methD_mem {p:Prog} {x:Ty} {m:Str} {d:Decl} (h:methD p x m=some d):d∈p.decls:=by
 unfold methD at h
 split at h
 ·split at h
  ·rename_i hf
   split at h
   ·cases h;exact List.mem_of_find?_eq_some hf
   ·cases h
  ·cases h
 ·cases h
abbrev q1V:List Nat:=[0,1,2,3,4,5,6,18]
theorem ok_assertion (p:Prog)(h:p.Sm)(e v:Ex)(he:e.Sm)(h0:e.kids[0]? = some v):CallOK prog 254 [maV p,exV e] (resV (asrtE p e v)):=by
 have hv:=he.kids.2 v (List.mem_of_getElem? h0)
 have hi:=ok_Implements p h [] (by simp) (by simp) v.type e.type hv.type he.type
 unfold asrtE
 generalize implB p [] v.type e.type=b at *
 cases b
 ·rw [if_neg (by decide)]
  refine cB func254 ?_
  refine sR q1V ?_
  (refine sV q1V fun K z=>?_;refine cj (exR_get h0) ?_;apply z;clear z K)
  refine kC hi q1V fun K1 u1=>?_
  refine tI ?_
  refine sR q1V ?_
  exact aR
 ·rw [if_pos rfl]
  refine cB func254 ?_
  refine sR q1V ?_
  (refine sV q1V fun K z=>?_;refine cj (exR_get h0) ?_;apply z;clear z K)
  refine kC hi q1V fun K1 u1=>?_
  refine kI u1 ?_
  refine sR q1V ?_
  exact aR
theorem fieldsT_len {p:Prog} (h:p.Sm)(x:Ty):(fieldsT p x).length≤sm:=by
 unfold fieldsT
 split
 ·rename_i hi
  obtain⟨d,hd,_⟩:=inst_decl (by decide) hi
  rw [hd,Option.getD_some]
  unfold fieldsD
  rw [List.length_map]
  exact (h.decls.2 d (declT_mem hd)).fields.1
 ·simp
abbrev q2V:List Nat:=[0,1,2,3,4,5,6,7,8,9,37]
theorem ok_selection (p:Prog)(h:p.Sm)(e v:Ex)(he:e.Sm)(h0:e.kids[0]? = some v):CallOK prog 253 [maV p,exV e] (resV (selE p e v)):=by
 have hv:=he.kids.2 v (List.mem_of_getElem? h0)
 have hf:=ok_TFields p h v.type hv.type
 have h1:∀ f:Param,CallOK prog 291 [paV f,.dptr (exC e) 0] (boolV (decide (f.name=e.name))):=fun f=>by
  refine cB func291 ?_
  refine sR [0,1,2,3] ?_
  refine sR [0,1,2,3] ?_
  exact aR
 have hx:=ok_IndexFuncP 291 [.dptr (exC e) 0] (fun _=>rfl) (fun f:Param=>decide (f.name=e.name)) (fieldsT p v.type) (fieldsT_len h v.type) (fun t _=>h1 t)
 unfold selE
 generalize idxF (fun f:Param=>decide (f.name=e.name)) (fieldsT p v.type)=k at *
 generalize fieldsT p v.type=fs at *
 generalize instB p v.type 1=bb at *
 cases bb
 ·rw [if_neg (fun hh=>by cases hh.1)]
  refine cB func253 ?_
  refine sR q2V ?_
  (refine sV q2V fun K z=>?_;refine cj (exR_get h0) ?_;apply z;clear z K)
  refine sC hf q2V ?_
  refine AWp.freeze 3 rfl rfl (wk [(2,.box 2 0),(3,.dptr (exC e) 0),(4,.box 4 0),(6,.box 6 0),(7,.d (.slice (paR fs))),(8,.d (.bool _))] [(2,.cells [.dptr (tabC p) 0]),(4,.cells [.d (.int .i64 0),.d (.str []),.d (.str []),.d .nil,.d (.int .i64 0),.d .nil,.d .nil,.d (.int .i64 0)]),(6,.cells (exS v))] ?_)
  refine sC hx q2V ?_
  refine kR q2V fun K1 u1=>?_
  refine tI ?_
  refine sR q2V ?_
  exact aR
 ·by_cases hk0:k < 0
  ·rw [if_neg (fun hh=>by omega)]
   refine cB func253 ?_
   refine sR q2V ?_
   (refine sV q2V fun K z=>?_;refine cj (exR_get h0) ?_;apply z;clear z K)
   refine sC hf q2V ?_
   refine AWp.freeze 3 rfl rfl (wk [(2,.box 2 0),(3,.dptr (exC e) 0),(4,.box 4 0),(6,.box 6 0),(7,.d (.slice (paR fs))),(8,.d (.bool _))] [(2,.cells [.dptr (tabC p) 0]),(4,.cells [.d (.int .i64 0),.d (.str []),.d (.str []),.d .nil,.d (.int .i64 0),.d .nil,.d .nil,.d (.int .i64 0)]),(6,.cells (exS v))] ?_)
   refine sC hx q2V ?_
   refine kR1 hk0 q2V fun K1 u1=>?_
   refine tI ?_
   refine sR q2V ?_
   exact aR
  ·by_cases hlt:k < v.kids.length
   ·have hge:¬ k ≥ (v.kids.length:Int):=by omega
    have hx2:v.kids[k.toNat]? = some v.kids[k.toNat]:=List.getElem?_eq_getElem (by omega)
    rw [if_pos ⟨rfl,by omega,hlt⟩,hx2,Option.getD_some]
    generalize v.kids[k.toNat]=u at *
    refine cB func253 ?_
    refine sR q2V ?_
    (refine sV q2V fun K z=>?_;refine cj (exR_get h0) ?_;apply z;clear z K)
    refine sC hf q2V ?_
    refine AWp.freeze 3 rfl rfl (wk [(2,.box 2 0),(3,.dptr (exC e) 0),(4,.box 4 0),(6,.box 6 0),(7,.d (.slice (paR fs))),(8,.d (.bool _))] [(2,.cells [.dptr (tabC p) 0]),(4,.cells [.d (.int .i64 0),.d (.str []),.d (.str []),.d .nil,.d (.int .i64 0),.d .nil,.d .nil,.d (.int .i64 0)]),(6,.cells (exS v))] ?_)
    refine sC hx q2V ?_
    refine kR2 hk0 hge q2V fun K1 u1=>?_
    refine kI u1 ?_
    clear u1 K1
    (refine sV q2V fun K z=>?_;refine ci (exR_get hx2) ?_;apply z;clear z K)
    exact aR
   ·have hge:k ≥ (v.kids.length:Int):=by omega
    rw [if_neg (fun hh=>hlt hh.2.2)]
    refine cB func253 ?_
    refine sR q2V ?_
    (refine sV q2V fun K z=>?_;refine cj (exR_get h0) ?_;apply z;clear z K)
    refine sC hf q2V ?_
    refine AWp.freeze 3 rfl rfl (wk [(2,.box 2 0),(3,.dptr (exC e) 0),(4,.box 4 0),(6,.box 6 0),(7,.d (.slice (paR fs))),(8,.d (.bool _))] [(2,.cells [.dptr (tabC p) 0]),(4,.cells [.d (.int .i64 0),.d (.str []),.d (.str []),.d .nil,.d (.int .i64 0),.d .nil,.d .nil,.d (.int .i64 0)]),(6,.cells (exS v))] ?_)
    refine sC hx q2V ?_
    refine kR2 hk0 hge q2V fun K1 u1=>?_
    refine tI ?_
    refine sR q2V ?_
    exact aR
abbrev q1X:List Nat:=[0,1,2,3,4,5,6,7,8,9,10,11,13,50,54,59,73,76,77,78,79]
theorem ok_call (p:Prog)(h:p.Sm)(e v:Ex)(he:e.Sm)(h0:e.kids[0]? = some v):CallOK prog 252 [maV p,exV e] (resV (callE p e v)):=by
 have hv:=he.kids.2 v (List.mem_of_getElem? h0)
 have hm:=ok_TMethod p h v.type hv.type e.name he.name
 have hkl:=he.kids.1
 unfold callE
 cases hd:methD p v.type e.name with
 | none =>
  rw [hd] at hm
  simp only [Option.getD_none,Option.isSome_none] at hm ⊢
  refine cB func252 ?_
  refine sR q1X ?_
  (refine sV q1X fun K z=>?_;refine cj (exR_get h0) ?_;apply z;clear z K)
  refine sC hm q1X ?_
  refine kR q1X fun K1 u1=>?_
  refine tI ?_
  refine sR q1X ?_
  exact aR
 | some d =>
  rw [hd] at hm
  simp only [Option.getD_some,Option.isSome_some] at hm ⊢
  have hds:=h.decls.2 d (methD_mem hd)
  by_cases hl1:d.sig.formals.length=e.targs.length
  ·have hl1':(d.sig.formals.length:Int)=e.targs.length:=by omega
   by_cases hl2:d.sig.params.length+1=e.kids.length
   ·have hl2':(d.sig.params.length:Int)=e.kids.length - 1:=by omega
    rw [if_pos ⟨hl1,hl2⟩]
    refine cB func252 ?_
    refine sR q1X ?_
    (refine sV q1X fun K z=>?_;refine cj (exR_get h0) ?_;apply z;clear z K)
    refine sC hm q1X ?_
    refine sK fun K1 u1=>?_
    (refine sQ q1X fun K z=>?_;refine ev2 hl1' hl2' ?_;refine⟨by first | (unfold InR;omega) | (simp only [InR,sm,lim] at *;omega),?_⟩;(try refine ev2 hl1' hl2' ?_);apply z;clear z K)
    refine kI u1 ?_
    clear u1 K1
    have hcl:=ok_CloneS d.vars hds.vars.1
    have hnm:=ok_Names d.sig.formals hds.sig.formals.1
    have hct:=ok_ConcatT [v.type.args,e.targs] (show 2≤sm by decide) (by simp only [List.map_cons,List.map_nil,List.sum_cons,List.sum_nil];have:=hv.type.len;have:=he.targs.1;omega)
    rw [show [v.type.args,e.targs].flatten=v.type.args++e.targs by simp] at hct
    have hargs:∀ u,u∈v.type.args++e.targs→u.Sm:=fun u hu=>(List.mem_append.1 hu).elim (hv.type.arg u) (he.targs.2 u)
    have hsub:=ok_ESubst (d.vars++fnames d.sig.formals) (v.type.args++e.targs) hargs d.body hds.body
    have hsm:=Ex.Sm.subst (vars:=d.vars++fnames d.sig.formals) hargs d.body hds.body
    unfold calledE
    generalize d.body.subst (d.vars++fnames d.sig.formals) (v.type.args++e.targs)=body at *
    have hrep:=ok_EReplace (d.recv::d.sig.params.map (·.name)) e.kids he.kids.2 body hsm
    rw [strsV,strR_append] at hsub
    have hvl:=hds.vars.1
    have hfl:=hds.sig.formals.1
    have hpl:=hds.sig.params.1
    have hfn:(fnames d.sig.formals).length=d.sig.formals.length:=by simp [fnames]
    rw [show d.sig.formals.map (fun f=>f.name)=fnames d.sig.formals from rfl] at hnm
    generalize fnames d.sig.formals=ns at *
    (refine sG q1X [54] 6 [⟨[],[],[],[]⟩,⟨[],[],[],[]⟩,⟨[54],[54],[],[]⟩,⟨[],[],[54],[54]⟩,⟨[],[],[54],[54]⟩,⟨[],[],[54],[54]⟩] fun K z=>?_;refine ev ?_;refine⟨_,_,_,_,_,rfl,hcl,?_⟩;(try refine ev ?_);refine cc hnm ?_;refine⟨strR_row _,by unfold lim sm at *;omega,?_⟩;(try refine ev ?_);apply z;clear z K)
    refine AWp.publish 54 rfl (AWp.weaken (sl':=[(3,.box 3 0),(4,.box 4 0),(6,.box 6 0),(7,.box 7 0),(9,.d (.slice (strR d.vars++strR ns)))]) (bx':=[(3,.cells (exS e)),(4,.cells [.d (.int .i64 0),.d (.str []),.d (.str []),.d .nil,.d (.int .i64 0),.d .nil,.d .nil,.d (.int .i64 0)]),(6,.cells (exS v)),(7,.cells ((deC d).map .d))])
     ⟨.inr (.inl rfl),.inr (.inl rfl),.inr (.inl rfl),.inr (.inl rfl),.inr (.inl rfl),trivial⟩ ⟨rfl,rfl,rfl,rfl,trivial⟩ ?_)
    (refine sG q1X [] 12 [⟨[],[],[10],[10]⟩,⟨[],[],[10],[10]⟩,⟨[],[],[10],[10]⟩,⟨[],[],[10],[10]⟩,⟨[],[],[10],[10]⟩,⟨[],[],[10],[10]⟩,⟨[],[],[10],[10]⟩,⟨[],[],[10],[10]⟩,⟨[],[],[10],[10]⟩,⟨[],[],[10],[10]⟩,⟨[],[],[10],[10]⟩,⟨[10],[10],[],[]⟩] fun K z=>?_;refine ev ?_;refine cc hct ?_;refine cc hsub ?_;apply z;clear z K)
    (refine AWp.seqR q1X [73] (by decide +kernel) fun K z=>?_;refine ev ?_;apply z;clear z K)
    refine kR q1X fun K1 u1=>?_
    refine AWp.block (AWp.forIdx d.sig.params (X:=Unit) (fun j _=>[(3,.box 3 0),(4,.box 4 0),(10,.box 10 0),(11,.acc 73),(76,.d (.slice (paR d.sig.params))),(77,intV d.sig.params.length),(78,intV j)])
     (fun j _=>[(3,.cells (exS e)),(4,.cells [.d (.int .i64 0),.d (.str []),.d (.str []),.d .nil,.d (.int .i64 0),.d .nil,.d .nil,.d (.int .i64 0)]),(10,.cells (exS body)),(73,.rows 1 (strR (d.recv::(d.sig.params.take j).map (·.name))))])
     (fun j _=>True) () trivial sS (by simp [ble,bget,strR,exS]) ?_ ?_)
    ·intro _ _
     rw [List.take_length]
     refine sR1 Int.lt_irrefl q1X ?_
     refine AWp.stop rfl ?_
     simp only [thenA,blockA,if_true]
     refine u1 _ _ ?_
     refine AWp.publish 73 rfl (AWp.weaken (sl':=[(3,.box 3 0),(4,.box 4 0),(10,.box 10 0),(11,.d (.slice (strR (d.recv::d.sig.params.map (·.name)))))]) (bx':=[(3,.cells (exS e)),(4,.cells [.d (.int .i64 0),.d (.str []),.d (.str []),.d .nil,.d (.int .i64 0),.d .nil,.d .nil,.d (.int .i64 0)]),(10,.cells (exS body))])
      ⟨.inr (.inl rfl),.inr (.inl rfl),.inr (.inl rfl),.inr (.inl rfl),trivial⟩ ⟨rfl,rfl,rfl,trivial⟩ ?_)
     refine sC hrep q1X ?_
     exact aR
    ·intro j _ f hf hmem dp tk hlt _
     rw [tk]
     refine sR1 hlt q1X ?_
     refine AWp.goOn rfl ?_
     refine sK fun K2 u2=>?_
     refine AWp.block ?_
     (refine sV q1X fun K z=>?_;refine ci (paR_get hf) ?_;apply z;clear z K)
     (refine lV q1X fun K z=>?_;refine⟨by simp,by simp only [List.length_cons,List.length_map,List.length_take];unfold lim sm at *;omega,?_⟩;(try refine ev ?_);apply z;clear z K;try simp only [thenA,blockA,if_true])
     refine u2 _ _ ?_
     clear u2 K2
     (refine lV q1X fun K z=>?_;refine cl ?_;apply z;clear z K;try simp only [thenA,blockA,if_true])
     exact⟨(),trivial,sS,by simp [ble,bget,strR,exS]⟩
   ·have hl2':¬ (d.sig.params.length:Int)=e.kids.length - 1:=by omega
    rw [if_neg (fun hh=>hl2 hh.2)]
    refine cB func252 ?_
    refine sR q1X ?_
    (refine sV q1X fun K z=>?_;refine cj (exR_get h0) ?_;apply z;clear z K)
    refine sC hm q1X ?_
    refine sK fun K1 u1=>?_
    (refine sQ q1X fun K z=>?_;refine ev2 hl1' hl2' ?_;refine⟨by first | (unfold InR;omega) | (simp only [InR,sm,lim] at *;omega),?_⟩;(try refine ev2 hl1' hl2' ?_);apply z;clear z K)
    refine tI ?_
    refine sR q1X ?_
    exact aR
  ·have hl1':¬ (d.sig.formals.length:Int)=e.targs.length:=by omega
   rw [if_neg (fun hh=>hl1 hh.1)]
   refine cB func252 ?_
   refine sR q1X ?_
   (refine sV q1X fun K z=>?_;refine cj (exR_get h0) ?_;apply z;clear z K)
   refine sC hm q1X ?_
   refine kR1 hl1' q1X fun K1 u1=>?_
   refine tI ?_
   refine sR q1X ?_
   exact aR
end Go.Abs

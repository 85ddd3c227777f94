/- table.Fields, castingsref11.Fields; table.Method; step.first -/
import Derived.Test.YtbhbfpjnenekpaaGreatDoorJS18
import Derived.Test.YtbhbfpjnenekpaaGreatDoorJS34
namespace Go.Abs
set_option linter.unusedSimpArgs false
set_option linter.unusedVariables false
open Go Go.Proofs Tryz
set_option maxRecDepth 100000
set_option maxHeartbeats 1000000
def fieldsD (d:Decl)(x:Ty):List Param:=d.fields.map (Param.subst (fnames d.formals) x.args)
def fieldsT (p:Prog)(x:Ty):List Param:=if instB p x 1=true then fieldsD ((declT p x.name).getD default) x else []
abbrev q1N:List Nat:=[0,1,3,4,5,6,7,8,10,18,20,21,22,23]
theorem ok_TFields (p:Prog)(h:p.Sm)(x:Ty)(hx:x.Sm):CallOK prog 114 [.dptr (tabC p) 0,tyV x] (.tuple [.d (.slice (paR (fieldsT p x))),boolV (instB p x 1)]):=by
 have hin:=ok_instance p h x 1 (by decide)
 unfold fieldsT
 rcases Bool.eq_false_or_eq_true (instB p x 1) with hi | hi
 ·obtain⟨dd,hdd,_⟩:=inst_decl (by decide) hi
  rw [hi,if_pos rfl]
  rw [hdd,Option.getD_some,hi] at hin
  rw [hdd,Option.getD_some]
  have hds:=h.decls.2 dd (declT_mem hdd)
  have hfl:=hds.fields.1
  have hn:=ok_Names dd.formals hds.formals.1
  unfold fieldsD
  refine cB func114 ?_
  refine sR q1N ?_
  refine sC hin q1N ?_
  refine kR q1N fun K1 u1=>?_
  refine kI u1 ?_
  clear u1 K1
  refine sR q1N ?_
  refine AWp.promote 8 5 8 rfl ?_
  refine kR q1N fun K1 u1=>?_
  refine AWp.block (AWp.forIdx dd.fields (X:=Unit) (fun j _=>[(3,.box 3 0),(6,.box 6 0),(8,.acc 8),(20,.d (.slice (paR dd.fields))),(21,intV dd.fields.length),(22,intV j)])
   (fun j _=>[(3,.cells [.d (.str x.name),tysV x.args,intV x.pos]),(6,.cells ((deC dd).map .d)),(8,.rows 5 (paR ((dd.fields.take j).map (Param.subst (fnames dd.formals) x.args))))])
   (fun j _=>True) () trivial sS (by simp [ble,bget,paR,deC]) ?_ ?_)
  ·intro _ _
   rw [List.take_length]
   refine sR1 Int.lt_irrefl q1N ?_
   refine AWp.stop rfl ?_
   simp only [thenA,blockA,if_true]
   refine u1 _ _ ?_
   refine sR q1N ?_
   exact aR
  ·intro j _ d hd hmem dp tk hlt _
   rw [tk]
   have hsub:=ok_Subst (fnames dd.formals) x.args hx.arg d.type (hds.fields.2 d hmem).type
   refine sR1 hlt q1N ?_
   refine AWp.goOn rfl ?_
   refine sK fun K2 u2=>?_
   refine AWp.block ?_
   (refine sV q1N fun K z=>?_;refine ci (paR_get hd) ?_;apply z;clear z K)
   (refine lG q1N [] 15 [] fun K z=>?_;refine ev ?_;refine cc hn ?_;refine cc hsub ?_;refine⟨by simp,by simp only [List.length_map,List.length_take];unfold lim sm at *;omega,?_⟩;(try refine ev ?_);apply z;clear z K;try simp only [thenA,blockA,if_true])
   refine u2 _ _ ?_
   clear u2 K2
   (refine lV q1N fun K z=>?_;refine cl ?_;apply z;clear z K;try simp only [thenA,blockA,if_true])
   exact⟨(),trivial,sS,by simp [ble,bget,paR,deC,paC,Param.subst]⟩
 ·rw [hi] at hin ⊢
  rw [if_neg (by decide)]
  generalize (declT p x.name).getD default=dd at *
  refine cB func114 ?_
  refine sR q1N ?_
  refine sC hin q1N ?_
  refine kR q1N fun K1 u1=>?_
  refine tI ?_
  refine sR q1N ?_
  exact aR
def methD (p:Prog)(x:Ty)(m:Str):Option Decl:=if instB p x 1=true then (match p.decls.find? (keyM x.name m) with
 | some d=>if d.vars.length=x.args.length then some d else none
 | none=>none) else none
def ex0:Ex:=.mk 0 [] (.mk [] [] 0) [] [] 0
abbrev q1O:List Nat:=[0,1,2,3,4,5,6,7,8,21]
theorem ok_RFields (p:Prog)(h:p.Sm)(x:Ty)(hx:x.Sm)(hi:instB p x 1=true):CallOK prog 62 [prV p,tyV x] (.d (.slice (paR (fieldsT p x)))):=by
 obtain⟨dd,hdd,_⟩:=inst_decl (by decide) hi
 unfold fieldsT
 rw [if_pos hi,hdd,Option.getD_some]
 have hds:=h.decls.2 dd (declT_mem hdd)
 have hfl:=hds.fields.1
 have hn:=ok_RefNames dd.formals hds.formals.1
 have hfi:=ok_Find p x.name
 obtain⟨k,hk,hk2⟩:∃ k:Nat,p.decls[k]? = some dd∧findD x.name p.decls 0=(k:Int):=by
  rcases findD_find x.name p.decls 0 with ⟨_,h2⟩ | ⟨k,e,h1,h2,h3⟩
  ·have:declT p x.name=none:=h2
   rw [hdd] at this;cases this
  ·have:declT p x.name=some e:=h3
   rw [hdd] at this
   obtain rfl:=Option.some.inj this
   exact⟨k,h1,by rw [h2];simp⟩
 rw [hk2] at hfi
 unfold fieldsD
 refine cB func62 ?_
 refine sR q1O ?_
 (refine sG q1O [] 9 [⟨[],[],[5],[5]⟩,⟨[],[],[5],[5]⟩,⟨[],[],[5],[5]⟩,⟨[],[],[5],[5]⟩,⟨[],[],[5],[5]⟩,⟨[],[],[5],[5]⟩,⟨[],[],[5],[5]⟩,⟨[],[],[5],[5]⟩,⟨[5],[5],[],[]⟩] fun K z=>?_;refine ev ?_;refine cc hfi ?_;refine ci (deR_get hk) ?_;apply z;clear z K)
 refine sR q1O ?_
 refine AWp.promote 6 5 6 rfl ?_
 refine kR q1O fun K1 u1=>?_
 refine AWp.block (AWp.forIdx dd.fields (X:=Unit) (fun j _=>[(3,.box 3 0),(5,.box 5 0),(6,.acc 6),(7,intV j)])
  (fun j _=>[(3,.cells [.d (.str x.name),tysV x.args,intV x.pos]),(5,.cells ((deC dd).map .d)),(6,.rows 5 (paR ((dd.fields.take j).map (Param.subst (fnames dd.formals) x.args))))])
  (fun j _=>True) () trivial sS (by simp [ble,bget,paR,deC]) ?_ ?_)
 ·intro _ _
  rw [List.take_length]
  refine kR1 Int.lt_irrefl q1O fun K2 u2=>?_
  refine AWp.stopK rfl ?_
  simp only [thenA,blockA,if_true]
  refine u1 _ _ ?_
  refine sR q1O ?_
  exact aR
 ·intro j _ d hd hmem dp tk hlt _
  rw [tk]
  have hsub:=ok_RSubst (fnames dd.formals) x.args hx.arg d.type (hds.fields.2 d hmem).type
  refine kR1 hlt q1O fun K2 u2=>?_
  refine gI u2 ?_
  clear u2 K2
  refine sK fun K2 u2=>?_
  refine AWp.block ?_
  (refine sV q1O fun K z=>?_;refine ci (paR_get hd) ?_;apply z;clear z K)
  (refine sG q1O [] 7 [] fun K z=>?_;refine ev ?_;refine cc hn ?_;refine cc hsub ?_;apply z;clear z K)
  (refine lV q1O fun K z=>?_;refine⟨by simp,by simp only [List.length_map,List.length_take];unfold lim sm at *;omega,?_⟩;(try refine ev ?_);apply z;clear z K;try simp only [thenA,blockA,if_true])
  refine u2 _ _ ?_
  clear u2 K2
  (refine lV q1O fun K z=>?_;refine cl ?_;apply z;clear z K;try simp only [thenA,blockA,if_true])
  exact⟨(),trivial,sS,by simp [ble,bget,paR,deC,paC,Param.subst]⟩
end Go.Abs

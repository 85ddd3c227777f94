/- table.Fields, castingsref11.Fields; table.Method; step.first -/
import Derived.Test.YtlpkdlopdccmmaaGreatDoorYS18
import Derived.Test.YtlpkdlopdccmmaaGreatDoorYS34
namespace Go.Abs
set_option linter.unusedSimpArgs false
set_option linter.unusedVariables false
open Go Go.Proofs Tryz
set_option maxRecDepth 100000
set_option maxHeartbeats 1000000
def fieldsD (d:Decl)(x:Ty):List Param:=d.fields.map (Param.subst (fnames d.formals) x.args)
def fieldsT (p:Prog)(x:Ty):List Param:=if instB p x 1=true then fieldsD ((declT p x.name).getD default) x else []
abbrev q1K:List Nat:=[0,1,3,4,5,6,7,8,10,18,20,21,22,23]
theorem ok_TFields (p:Prog)(h:p.Sm)(x:Ty)(hx:x.Sm):CallOK prog 282 [.dptr (tabC p) 0,tyV x] (.tuple [.d (.slice (paR (fieldsT p x))),boolV (instB p x 1)]):=by
 have hin:=ok_instance p h x 1 (by decide)
 unfold fieldsT
 rcases Bool.eq_false_or_eq_true (instB p x 1) with hi | hi
 ·obtain⟨dd,hdd,_⟩:=inst_decl (by decide) hi
  rw [hi,if_pos rfl]
  rw [hdd,Option.getD_some,hi] at hin
  rw [hdd,Option.getD_some]
  have hds:=h.decls.2 dd (declT_mem hdd)
  have hfl:=hds.fields.1
  have hn:=ok_Names dd.formals hds.formals.1
  unfold fieldsD
  refine cB func282 ?_
  refine sR q1K ?_
  refine sC hin q1K ?_
  refine kR q1K fun K1 u1=>?_
  refine kI u1 ?_
  clear u1 K1
  refine sR q1K ?_
  refine AWp.promote 8 5 8 rfl ?_
  refine kR q1K fun K1 u1=>?_
  refine AWp.block (AWp.forIdx dd.fields (X:=Unit) (fun j _=>[(3,.box 3 0),(6,.box 6 0),(8,.acc 8),(20,.d (.slice (paR dd.fields))),(21,intV dd.fields.length),(22,intV j)])
   (fun j _=>[(3,.cells [.d (.str x.name),tysV x.args,intV x.pos]),(6,.cells ((deC dd).map .d)),(8,.rows 5 (paR ((dd.fields.take j).map (Param.subst (fnames dd.formals) x.args))))])
   (fun j _=>True) () trivial sS (by simp [ble,bget,paR,deC]) ?_ ?_)
  ·intro _ _
   rw [List.take_length]
   refine sR1 Int.lt_irrefl q1K ?_
   refine AWp.stop rfl ?_
   simp only [thenA,blockA,if_true]
   refine u1 _ _ ?_
   refine sR q1K ?_
   exact aR
  ·intro j _ d hd hmem dp tk hlt _
   rw [tk]
   have hsub:=ok_Subst (fnames dd.formals) x.args hx.arg d.type (hds.fields.2 d hmem).type
   refine sR1 hlt q1K ?_
   refine AWp.goOn rfl ?_
   refine sK fun K2 u2=>?_
   refine AWp.block ?_
   (refine sV q1K fun K z=>?_;refine ci (paR_get hd) ?_;apply z;clear z K)
   (refine lG q1K [] 15 [] fun K z=>?_;refine ev ?_;refine cc hn ?_;refine cc hsub ?_;refine⟨by simp,by simp only [List.length_map,List.length_take];unfold lim sm at *;omega,?_⟩;(try refine ev ?_);apply z;clear z K;try simp only [thenA,blockA])
   refine u2 _ _ ?_
   clear u2 K2
   refine lT q1K ?_
   exact⟨(),trivial,sS,by simp [ble,bget,paR,deC,paC,Param.subst]⟩
 ·rw [hi] at hin ⊢
  rw [if_neg (by decide)]
  generalize (declT p x.name).getD default=dd at *
  refine cB func282 ?_
  refine sR q1K ?_
  refine sC hin q1K ?_
  refine kR q1K fun K1 u1=>?_
  refine tI ?_
  refine sR q1K ?_
  exact aR
def tysL (ls:List (List Ty)):List (List D):=ls.map fun l=>[.slice (tyR l)]
theorem tysL_get {ls:List (List Ty)} {j:Nat} {l:List Ty} (h:ls[j]? = some l):(tysL ls)[j]? = some [.slice (tyR l)]:=by simp [tysL,h]
abbrev q1L:List Nat:=[0,2,3,5,6,8,9,10,11,12,20,24,25,26,27,28]
theorem ok_ConcatT (ls:List (List Ty))(hl:ls.length≤sm)(hn:(ls.map List.length).sum≤2*sm):CallOK prog 99 [.d (.slice (tysL ls))] (.d (.slice (tyR ls.flatten))):=by
 refine cB func99 ?_
 refine sR q1L ?_
 refine sR q1L ?_
 refine kR q1L fun K1 u1=>?_
 refine AWp.block (AWp.forIdx ls (X:=Unit) (fun j _=>[(0,.d (.slice (tysL ls))),(3,intV (((ls.take j).map List.length).sum:Nat)),(9,.d (.slice (tysL ls))),(10,intV ls.length),(11,intV j)]) (fun _ _=>[])
  (fun j _=>True) () trivial (by simp [sle,vle,sget,tysL]) sB ?_ ?_)
 ·intro _ _
  rw [List.take_length]
  refine sR1 Int.lt_irrefl q1L ?_
  refine AWp.stop rfl ?_
  simp only [thenA,blockA,if_true]
  refine u1 _ _ ?_
  clear u1 K1
  (refine AWp.seqR q1L [800024] (by decide +kernel) fun K z=>?_;refine ev ?_;refine⟨_,_,_,opB_call1 24 rfl rfl rfl (ok_GrowT _ (by unfold sm at hn;omega)) rfl (by decide) rfl,?_⟩;simp only [SV.ren,one1,if_true];(try refine ev ?_);apply z;clear z K)
  refine kR q1L fun K1 u1=>?_
  refine AWp.block (AWp.forIdx ls (X:=Unit) (fun j _=>[(6,.acc 24),(25,.d (.slice (tysL ls))),(26,intV ls.length),(27,intV j)]) (fun j _=>[(24,.rows 3 (tyR (ls.take j).flatten))])
   (fun j _=>True) () trivial (by simp [sle,vle,sget,tysL]) (by simp [ble,bget,tyR_map]) ?_ ?_)
  ·intro _ _
   rw [List.take_length]
   refine sR1 Int.lt_irrefl q1L ?_
   refine AWp.stop rfl ?_
   simp only [thenA,blockA,if_true]
   refine u1 _ _ ?_
   clear u1 K1
   refine sR q1L ?_
   exact aR
  ·intro j _ d hd hmem dp tk hlt hI
   have htk:=sum_take ls (j+1)
   rw [tk,List.map_append,List.sum_append] at htk
   simp only [List.map_cons,List.map_nil,List.sum_cons,List.sum_nil,Nat.add_zero] at htk
   rw [tk,List.flatten_append,List.flatten_cons,List.flatten_nil,List.append_nil]
   refine sR1 hlt q1L ?_
   refine AWp.goOn rfl ?_
   refine sK fun K2 u2=>?_
   refine AWp.block ?_
   (refine sV q1L fun K z=>?_;refine ci (tysL_get hd) ?_;apply z;clear z K)
   (refine lV q1L fun K z=>?_;refine⟨tyR_row _,by rw [List.length_flatten];unfold lim sm at *;omega,?_⟩;(try refine ev ?_);apply z;clear z K;try simp only [thenA,blockA])
   refine u2 _ _ ?_
   clear u2 K2
   refine lT q1L ?_
   exact⟨(),trivial,sS,by simp [ble,bget,tyR_map]⟩
 ·intro j _ d hd hmem dp tk hlt hI
  have htk:=sum_take ls (j+1)
  rw [tk,List.map_append,List.sum_append] at htk
  simp only [List.map_cons,List.map_nil,List.sum_cons,List.sum_nil,Nat.add_zero] at htk
  have hnn:¬ (((((ls.take j).map List.length).sum:Nat):Int)+(d.length:Int) < 0):=by omega
  rw [tk,List.map_append,List.sum_append]
  simp only [List.map_cons,List.map_nil,List.sum_cons,List.sum_nil,Nat.add_zero]
  refine sR1 hlt q1L ?_
  refine AWp.goOn rfl ?_
  refine sK fun K2 u2=>?_
  refine AWp.block ?_
  (refine sV q1L fun K z=>?_;refine ci (tysL_get hd) ?_;apply z;clear z K)
  (refine sV q1L fun K z=>?_;refine ca ?_;apply z;clear z K)
  refine sR1 hnn q1L ?_
  refine AWp.condF rfl (AWp.skip (u2 _ _ ?_))
  clear u2 K2
  refine lT q1L ?_
  exact⟨(),trivial,sS,sB⟩
def ex0:Ex:=.mk 0 [] (.mk [] [] 0) [] [] 0
abbrev q2L:List Nat:=[0,1,2,3,4,5,6,7,8,21]
theorem ok_RFields (p:Prog)(h:p.Sm)(x:Ty)(hx:x.Sm)(hi:instB p x 1=true):CallOK prog 76 [prV p,tyV x] (.d (.slice (paR (fieldsT p x)))):=by
 obtain⟨dd,hdd,_⟩:=inst_decl (by decide) hi
 unfold fieldsT
 rw [if_pos hi,hdd,Option.getD_some]
 have hds:=h.decls.2 dd (declT_mem hdd)
 have hfl:=hds.fields.1
 have hn:=ok_RefNames dd.formals hds.formals.1
 have hfi:=ok_Find p x.name
 obtain⟨k,hk,hk2⟩:∃ k:Nat,p.decls[k]? = some dd∧findD x.name p.decls 0=(k:Int):=by
  rcases findD_find x.name p.decls 0 with ⟨_,h2⟩ | ⟨k,e,h1,h2,h3⟩
  ·have:declT p x.name=none:=h2
   rw [hdd] at this;cases this
  ·have:declT p x.name=some e:=h3
   rw [hdd] at this
   obtain rfl:=Option.some.inj this
   exact⟨k,h1,by rw [h2];simp⟩
 rw [hk2] at hfi
 unfold fieldsD
 refine cB func76 ?_
 refine sR q2L ?_
 (refine sG q2L [] 9 [⟨[],[],[5],[5]⟩,⟨[],[],[5],[5]⟩,⟨[],[],[5],[5]⟩,⟨[],[],[5],[5]⟩,⟨[],[],[5],[5]⟩,⟨[],[],[5],[5]⟩,⟨[],[],[5],[5]⟩,⟨[],[],[5],[5]⟩,⟨[5],[5],[],[]⟩] fun K z=>?_;refine ev ?_;refine cc hfi ?_;refine ci (deR_get hk) ?_;apply z;clear z K)
 refine sR q2L ?_
 refine AWp.promote 6 5 6 rfl ?_
 refine kR q2L fun K1 u1=>?_
 refine AWp.block (AWp.forIdx dd.fields (X:=Unit) (fun j _=>[(3,.box 3 0),(5,.box 5 0),(6,.acc 6),(7,intV j)])
  (fun j _=>[(3,.cells [.d (.str x.name),tysV x.args,intV x.pos]),(5,.cells ((deC dd).map .d)),(6,.rows 5 (paR ((dd.fields.take j).map (Param.subst (fnames dd.formals) x.args))))])
  (fun j _=>True) () trivial sS (by simp [ble,bget,paR,deC]) ?_ ?_)
 ·intro _ _
  rw [List.take_length]
  refine kR1 Int.lt_irrefl q2L fun K2 u2=>?_
  refine AWp.stopK rfl ?_
  simp only [thenA,blockA,if_true]
  refine u1 _ _ ?_
  refine sR q2L ?_
  exact aR
 ·intro j _ d hd hmem dp tk hlt _
  rw [tk]
  have hsub:=ok_RSubst (fnames dd.formals) x.args hx.arg d.type (hds.fields.2 d hmem).type
  refine kR1 hlt q2L fun K2 u2=>?_
  refine gI u2 ?_
  clear u2 K2
  refine sK fun K2 u2=>?_
  refine AWp.block ?_
  (refine sV q2L fun K z=>?_;refine ci (paR_get hd) ?_;apply z;clear z K)
  (refine sG q2L [] 7 [] fun K z=>?_;refine ev ?_;refine cc hn ?_;refine cc hsub ?_;apply z;clear z K)
  (refine lV q2L fun K z=>?_;refine⟨by simp,by simp only [List.length_map,List.length_take];unfold lim sm at *;omega,?_⟩;(try refine ev ?_);apply z;clear z K;try simp only [thenA,blockA])
  refine u2 _ _ ?_
  clear u2 K2
  refine lT q2L ?_
  exact⟨(),trivial,sS,by simp [ble,bget,paR,deC,paC,Param.subst]⟩
end Go.Abs

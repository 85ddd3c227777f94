/- table.Fields, castingsref11.Fields; table.Method; step.first -/
import Derived.Test.YtbhbfpjnenekpaaGreatDoorUS18
import Derived.Test.YtbhbfpjnenekpaaGreatDoorUS34
namespace Go.Abs
set_option linter.unusedSimpArgs false
set_option linter.unusedVariables false
open Go Go.Proofs Tryz
set_option maxRecDepth 100000
set_option maxHeartbeats 1000000
abbrev q1T:List Nat:=[0,1,4,5,7,8,9,16]
theorem ok_IndexFuncE (f:FuncId)(caps:List SV)(hco:∀ x:Ex,coerceL [] (exV x::caps)=some (exV x::caps))(p:Ex→Bool)(l:List Ex)(hl:l.length≤sm)(hs:∀ t,t∈l→CallOK prog f (exV t::caps) (.d (.bool (p t)))) :
  CallOK prog 286 [.d (.slice (exR l)),.clo f caps] (intV (idxF p l)):=by
 refine cB func286 ?_
 refine sR q1T ?_
 refine kR q1T fun K1 u1=>?_
 refine AWp.block (AWp.forIdx l (X:=Unit) (fun j _=>[(0,.d (.slice (exR l))),(1,.clo f caps),(7,intV l.length),(8,intV j)]) (fun _ _=>[])
  (fun j _=>∀ y,y∈l.take j→p y=false) () (by simp) sS (by simp [ble,bget,exC,tyC,foC,paC,siC,deC,prC]) ?_ ?_)
 ·intro _ hI
  rw [List.take_length] at hI
  refine sR1 Int.lt_irrefl q1T ?_
  refine AWp.stop rfl ?_
  simp only [thenA,blockA,if_true]
  refine u1 _ _ ?_
  refine sR q1T ?_
  rw [idxF_none hI]
  exact aR
 ·intro j _ d hd hmem dp tk hlt hI
  refine sR1 hlt q1T ?_
  refine AWp.goOn rfl ?_
  refine sK fun K2 u2=>?_
  refine AWp.block ?_
  refine sR q1T ?_
  (refine sV q1T fun K z=>?_;refine ci (exR_get hd) ?_;refine⟨_,.inl ⟨_,hco d,hs d hmem,rfl⟩,?_⟩;(try refine ev ?_);apply z;clear z K)
  refine AWp.cond rfl (fun hc=>?_) (fun hc=>?_)
  ·refine sR q1T ?_
   rw [idxF_some hd hc hI]
   exact aR
  ·refine AWp.skip (u2 _ _ ?_)
   clear u2 K2
   (refine lV q1T fun K z=>?_;refine cl ?_;apply z;clear z K;try simp only [thenA,blockA,if_true])
   refine⟨(),?_,sS,(by simp [ble,bget,exC,tyC,foC,paC,siC,deC,prC])⟩
   rw [tk]
   intro y hy
   rcases List.mem_append.1 hy with hy | hy
   ·exact hI y hy
   ·simp only [List.mem_cons,List.not_mem_nil,or_false] at hy
    rw [hy];exact hc
def firstK1 (e:Ex):Int:=idxF (fun k=>!isVal k) e.kids
theorem ok_first (e:Ex)(h:e.Sm):CallOK prog 251 [exV e] (intV (firstK1 e)):=by
 have h1:∀ k:Ex,CallOK prog 287 [exV k] (boolV (!isVal k)):=fun k=>by
  have hv:=ok_Value k
  generalize isVal k=b at *
  refine cB func287 ?_
  refine sR [0,1,2] ?_
  refine sC hv [0,1,2] ?_
  exact aR
 have hi:=ok_IndexFuncE 287 [] (fun _=>rfl) (fun k=>!isVal k) e.kids h.kids.1 (fun t _=>h1 t)
 unfold firstK1
 generalize idxF (fun k=>!isVal k) e.kids=k at *
 refine cB func251 ?_
 refine sR [0,1,2] ?_
 refine sC hi [0,1,2] ?_
 exact aR
def fieldsD (d:Decl)(x:Ty):List Param:=d.fields.map (Param.subst (fnames d.formals) x.args)
def fieldsT (p:Prog)(x:Ty):List Param:=if instB p x 1=true then fieldsD ((declT p x.name).getD default) x else []
abbrev q2T:List Nat:=[0,1,3,4,5,6,7,8,10,18,20,21,22,23]
theorem ok_TFields (p:Prog)(h:p.Sm)(x:Ty)(hx:x.Sm):CallOK prog 114 [.dptr (tabC p) 0,tyV x] (.tuple [.d (.slice (paR (fieldsT p x))),boolV (instB p x 1)]):=by
 have hin:=ok_instance p h x 1 (by decide)
 unfold fieldsT
 rcases Bool.eq_false_or_eq_true (instB p x 1) with hi | hi
 ·obtain⟨dd,hdd,_⟩:=inst_decl (by decide) hi
  rw [hi,if_pos rfl]
  rw [hdd,Option.getD_some,hi] at hin
  rw [hdd,Option.getD_some]
  have hds:=h.decls.2 dd (declT_mem hdd)
  have hfl:=hds.fields.1
  have hn:=ok_Names dd.formals hds.formals.1
  unfold fieldsD
  refine cB func114 ?_
  refine sR q2T ?_
  refine sC hin q2T ?_
  refine kR q2T fun K1 u1=>?_
  refine kI u1 ?_
  clear u1 K1
  refine sR q2T ?_
  refine AWp.promote 8 5 8 rfl ?_
  refine kR q2T fun K1 u1=>?_
  refine AWp.block (AWp.forIdx dd.fields (X:=Unit) (fun j _=>[(3,.box 3 0),(6,.box 6 0),(8,.acc 8),(20,.d (.slice (paR dd.fields))),(21,intV dd.fields.length),(22,intV j)])
   (fun j _=>[(3,.cells [.d (.str x.name),tysV x.args,intV x.pos]),(6,.cells ((deC dd).map .d)),(8,.rows 5 (paR ((dd.fields.take j).map (Param.subst (fnames dd.formals) x.args))))])
   (fun j _=>True) () trivial sS (by simp [ble,bget,paR,deC]) ?_ ?_)
  ·intro _ _
   rw [List.take_length]
   refine sR1 Int.lt_irrefl q2T ?_
   refine AWp.stop rfl ?_
   simp only [thenA,blockA,if_true]
   refine u1 _ _ ?_
   refine sR q2T ?_
   exact aR
  ·intro j _ d hd hmem dp tk hlt _
   rw [tk]
   have hsub:=ok_Subst (fnames dd.formals) x.args hx.arg d.type (hds.fields.2 d hmem).type
   refine sR1 hlt q2T ?_
   refine AWp.goOn rfl ?_
   refine sK fun K2 u2=>?_
   refine AWp.block ?_
   (refine sV q2T fun K z=>?_;refine ci (paR_get hd) ?_;apply z;clear z K)
   (refine lG q2T [] 15 [] fun K z=>?_;refine ev ?_;refine cc hn ?_;refine cc hsub ?_;refine⟨by simp,by simp only [List.length_map,List.length_take];unfold lim sm at *;omega,?_⟩;(try refine ev ?_);apply z;clear z K;try simp only [thenA,blockA,if_true])
   refine u2 _ _ ?_
   clear u2 K2
   (refine lV q2T fun K z=>?_;refine cl ?_;apply z;clear z K;try simp only [thenA,blockA,if_true])
   exact⟨(),trivial,sS,by simp [ble,bget,paR,deC,paC,Param.subst]⟩
 ·rw [hi] at hin ⊢
  rw [if_neg (by decide)]
  generalize (declT p x.name).getD default=dd at *
  refine cB func114 ?_
  refine sR q2T ?_
  refine sC hin q2T ?_
  refine kR q2T fun K1 u1=>?_
  refine tI ?_
  refine sR q2T ?_
  exact aR
def tysL (ls:List (List Ty)):List (List D):=ls.map fun l=>[.slice (tyR l)]
theorem tysL_get {ls:List (List Ty)} {j:Nat} {l:List Ty} (h:ls[j]? = some l):(tysL ls)[j]? = some [.slice (tyR l)]:=by simp [tysL,h]
abbrev q1U:List Nat:=[0,2,3,5,6,8,9,10,11,12,20,24,25,26,27,28]
theorem ok_ConcatT (ls:List (List Ty))(hl:ls.length≤sm)(hn:(ls.map List.length).sum≤2*sm):CallOK prog 184 [.d (.slice (tysL ls))] (.d (.slice (tyR ls.flatten))):=by
 refine cB func184 ?_
 refine sR q1U ?_
 refine sR q1U ?_
 refine kR q1U fun K1 u1=>?_
 refine AWp.block (AWp.forIdx ls (X:=Unit) (fun j _=>[(0,.d (.slice (tysL ls))),(3,intV (((ls.take j).map List.length).sum:Nat)),(9,.d (.slice (tysL ls))),(10,intV ls.length),(11,intV j)]) (fun _ _=>[])
  (fun j _=>True) () trivial (by simp [sle,vle,sget,tysL]) (by simp [ble,bget,exC,tyC,foC,paC,siC,deC,prC]) ?_ ?_)
 ·intro _ _
  rw [List.take_length]
  refine sR1 Int.lt_irrefl q1U ?_
  refine AWp.stop rfl ?_
  simp only [thenA,blockA,if_true]
  refine u1 _ _ ?_
  clear u1 K1
  (refine AWp.seqR q1U [800024] (by decide +kernel) fun K z=>?_;refine ev ?_;refine⟨_,_,_,opB_call1 24 rfl rfl rfl (ok_GrowT _ (by unfold sm at hn;omega)) rfl (by decide) rfl,?_⟩;simp only [SV.ren,one1,if_true];(try refine ev ?_);apply z;clear z K)
  refine kR q1U fun K1 u1=>?_
  refine AWp.block (AWp.forIdx ls (X:=Unit) (fun j _=>[(6,.acc 24),(25,.d (.slice (tysL ls))),(26,intV ls.length),(27,intV j)]) (fun j _=>[(24,.rows 3 (tyR (ls.take j).flatten))])
   (fun j _=>True) () trivial (by simp [sle,vle,sget,tysL]) (by simp [ble,bget,tyR_map]) ?_ ?_)
  ·intro _ _
   rw [List.take_length]
   refine sR1 Int.lt_irrefl q1U ?_
   refine AWp.stop rfl ?_
   simp only [thenA,blockA,if_true]
   refine u1 _ _ ?_
   clear u1 K1
   refine sR q1U ?_
   exact aR
  ·intro j _ d hd hmem dp tk hlt hI
   have htk:=sum_take ls (j+1)
   rw [tk,List.map_append,List.sum_append] at htk
   simp only [List.map_cons,List.map_nil,List.sum_cons,List.sum_nil,Nat.add_zero] at htk
   rw [tk,List.flatten_append,List.flatten_cons,List.flatten_nil,List.append_nil]
   refine sR1 hlt q1U ?_
   refine AWp.goOn rfl ?_
   refine sK fun K2 u2=>?_
   refine AWp.block ?_
   (refine sV q1U fun K z=>?_;refine ci (tysL_get hd) ?_;apply z;clear z K)
   (refine lV q1U fun K z=>?_;refine⟨tyR_row _,by rw [List.length_flatten];unfold lim sm at *;omega,?_⟩;(try refine ev ?_);apply z;clear z K;try simp only [thenA,blockA,if_true])
   refine u2 _ _ ?_
   clear u2 K2
   (refine lV q1U fun K z=>?_;refine cl ?_;apply z;clear z K;try simp only [thenA,blockA,if_true])
   exact⟨(),trivial,sS,by simp [ble,bget,tyR_map]⟩
 ·intro j _ d hd hmem dp tk hlt hI
  have htk:=sum_take ls (j+1)
  rw [tk,List.map_append,List.sum_append] at htk
  simp only [List.map_cons,List.map_nil,List.sum_cons,List.sum_nil,Nat.add_zero] at htk
  have hnn:¬ (((((ls.take j).map List.length).sum:Nat):Int)+(d.length:Int) < 0):=by omega
  rw [tk,List.map_append,List.sum_append]
  simp only [List.map_cons,List.map_nil,List.sum_cons,List.sum_nil,Nat.add_zero]
  refine sR1 hlt q1U ?_
  refine AWp.goOn rfl ?_
  refine sK fun K2 u2=>?_
  refine AWp.block ?_
  (refine sV q1U fun K z=>?_;refine ci (tysL_get hd) ?_;apply z;clear z K)
  (refine sV q1U fun K z=>?_;refine cl ?_;apply z;clear z K)
  refine sR1 hnn q1U ?_
  refine AWp.condF rfl (AWp.skip (u2 _ _ ?_))
  clear u2 K2
  (refine lV q1U fun K z=>?_;refine cl ?_;apply z;clear z K;try simp only [thenA,blockA,if_true])
  exact⟨(),trivial,sS,(by simp [ble,bget,exC,tyC,foC,paC,siC,deC,prC])⟩
theorem RepC.split_nil {S:Nat→Prop} {w:World} {v:Value} (h:RepC S w (.slice []) v):RepC S w .nil v∨RepC S w .emp v:=by
 cases h with
 | slice0 a cap h1 =>
  cases a with
  | none=>rw [h1 rfl];exact .inl .nil
  | some a=>exact .inr (.emp a cap)
 | slice rows b off cap sz _ _ _ _ _ _ _=>exact .inr (.emp _ cap)
theorem CallB.split_nil {P:Program} {f:FuncId} {r:SV} {bx:Boxes} (h1:CallB P f [.d .nil] [] r bx)(h2:CallB P f [.d .emp] [] r bx):CallB P f [.d (.slice [])] [] r bx:=by
 refine⟨h1.1,fun C β vs hi hv=>?_⟩
 obtain⟨v,hv1,hv2⟩:=hv.get (j:=0) (c:=.d (.slice [])) rfl
 have hvs:vs=[v]:=by
  have hl:=hv.1
  match vs,hl with
  | [u],_=>simpa using hv1
 subst hvs
 rcases hv2.inv_d.split_nil with h | h
 ·exact h1.2 C β _ hi (.cons (.d _ _ h) .nil)
 ·exact h2.2 C β _ hi (.cons (.d _ _ h) .nil)
theorem ok_CloneS (l:List Str)(hl:l.length≤sm):CallB prog 183 [strsV l] [] (.acc 5) [(5,.rows 1 (strR l))]:=by
 cases l with
 | nil =>
  rw [show strR []=[] from rfl]
  refine CallB.split_nil ?_ ?_
  ·refine bB func183 ?_
   refine sR [0,2,4] ?_
   refine kR [0,2,4] fun K1 u1=>?_
   refine tI ?_
   refine sR [0,2,4] ?_
   refine AWp.promote 5 1 2 rfl ?_
   exact AWp.ret ⟨_,by rw [results183];rfl,.inl rfl,by simp [ble,bget]⟩
  ·refine bB func183 ?_
   refine sR [0,2,4] ?_
   refine kR [0,2,4] fun K1 u1=>?_
   refine kI u1 ?_
   clear u1 K1
   (refine AWp.seqR [0,2,4,5] [5] (by decide +kernel) fun K z=>?_;refine ev ?_;apply z;clear z K)
   exact AWp.ret ⟨_,by rw [results183];rfl,.inl rfl,by simp [ble,bget]⟩
 | cons x xs =>
  refine bB func183 ?_
  refine sR [0,2,4] ?_
  refine kR [0,2,4] fun K1 u1=>?_
  refine kI u1 ?_
  clear u1 K1
  (refine AWp.seqR [0,2,4,5] [5] (by decide +kernel) fun K z=>?_;refine ev ?_;refine⟨strR_row _,by have:=hl;simp only [List.length_cons] at this;unfold lim sm at *;omega,?_⟩;(try refine ev ?_);apply z;clear z K)
  exact AWp.ret ⟨_,by rw [results183];rfl,.inl rfl,by simp [ble,bget]⟩
def methD (p:Prog)(x:Ty)(m:Str):Option Decl:=if instB p x 1=true then (match p.decls.find? (keyM x.name m) with
 | some d=>if d.vars.length=x.args.length then some d else none
 | none=>none) else none
theorem tabGet_meth (p:Prog)(nm m:Str):tabGet p (tkey nm (46::m))=p.decls.find? (keyM nm m):=by
 unfold tabGet;rw [← keyM_eq];rfl
def ex0:Ex:=.mk 0 [] (.mk [] [] 0) [] [] 0
theorem ex0_Sm:ex0.Sm:=.mk _ _ _ _ _ _ (by simp) (.mk _ _ _ (by simp) (by simp) (by simp)) (by simp) (by simp) (by simp) (by simp)
theorem ok_copied (d:Decl)(h:d.Sm):CallOK prog 245 [deV d] (deV d):=by
 have hc:=ok_PClone ⟨[d],.mk 0 [] (.mk [] [] 0) [] [] 0⟩ ⟨⟨show 1≤sm by decide,fun t ht=>by rw [List.mem_singleton.1 ht];exact h⟩,ex0_Sm⟩
 have hg:=deR_get (l:=[d]) (i:=0) rfl
 refine cB func245 ?_
 refine sR [0,1,2] ?_
 (refine sV [0,1,2] fun K z=>?_;refine cc hc ?_;refine cj hg ?_;apply z;clear z K)
 exact aR
abbrev q2U:List Nat:=[0,1,2,4,6,7,8,9,11,42]
theorem ok_TMethod (p:Prog)(h:p.Sm)(x:Ty)(hx:x.Sm)(m:Str)(hm:m.length≤sm):CallOK prog 182 [.dptr (tabC p) 0,tyV x,strV m] (.tuple [deV ((methD p x m).getD default),boolV (methD p x m).isSome]):=by
 have hg:=ok_get p h x.name (46::m)
 rw [tabGet_meth] at hg
 have hin:=ok_instance p h x 1 (by decide)
 unfold methD
 generalize (declT p x.name).getD default=dd at *
 cases hf:p.decls.find? (keyM x.name m) with
 | none =>
  rw [hf] at hg
  simp only [Option.getD_none,Option.isSome_none] at hg
  have e:(if instB p x 1=true then (none:Option Decl) else none)=none:=by split <;> rfl
  simp only [e,Option.getD_none,Option.isSome_none]
  generalize instB p x 1=bb at *
  refine cB func182 ?_
  refine sR q2U ?_
  (refine sV q2U fun K z=>?_;refine⟨by unfold lim sm at *;omega,?_⟩;(try refine ev ?_);refine cc hg ?_;apply z;clear z K)
  refine kC hin q2U fun K1 u1=>?_
  cases bb
  ·refine sR q2U ?_
   refine tI ?_
   refine sR q2U ?_
   exact aR
  ·refine sR q2U ?_
   refine tI ?_
   refine sR q2U ?_
   exact aR
 | some d =>
  rw [hf] at hg
  simp only [Option.getD_some,Option.isSome_some] at hg
  have hdm:=List.mem_of_find?_eq_some hf
  have hcl:=ok_copied d (h.decls.2 d hdm)
  cases hb:instB p x 1 with
  | false =>
   rw [hb] at hin
   simp only [Bool.false_eq_true,if_false,Option.getD_none,Option.isSome_none]
   refine cB func182 ?_
   refine sR q2U ?_
   (refine sV q2U fun K z=>?_;refine⟨by unfold lim sm at *;omega,?_⟩;(try refine ev ?_);refine cc hg ?_;apply z;clear z K)
   refine kC hin q2U fun K1 u1=>?_
   refine sR q2U ?_
   refine tI ?_
   refine sR q2U ?_
   exact aR
  | true =>
   rw [hb] at hin
   by_cases hlen:d.vars.length=x.args.length
   ·have hlen':(d.vars.length:Int)=x.args.length:=by omega
    simp only [if_true,if_pos hlen,Option.getD_some,Option.isSome_some]
    refine cB func182 ?_
    refine sR q2U ?_
    (refine sV q2U fun K z=>?_;refine⟨by unfold lim sm at *;omega,?_⟩;(try refine ev ?_);refine cc hg ?_;apply z;clear z K)
    refine kC hin q2U fun K1 u1=>?_
    refine sR1 hlen' q2U ?_
    refine kI u1 ?_
    clear u1 K1
    refine sC hcl q2U ?_
    exact aR
   ·have hlen':¬ (d.vars.length:Int)=x.args.length:=by omega
    simp only [if_true,if_neg hlen,Option.getD_none,Option.isSome_none]
    refine cB func182 ?_
    refine sR q2U ?_
    (refine sV q2U fun K z=>?_;refine⟨by unfold lim sm at *;omega,?_⟩;(try refine ev ?_);refine cc hg ?_;apply z;clear z K)
    refine kC hin q2U fun K1 u1=>?_
    refine sR1 hlen' q2U ?_
    refine tI ?_
    refine sR q2U ?_
    exact aR
abbrev q3U:List Nat:=[0,1,2,3,4,5,6,7,8,21]
theorem ok_RFields (p:Prog)(h:p.Sm)(x:Ty)(hx:x.Sm)(hi:instB p x 1=true):CallOK prog 62 [prV p,tyV x] (.d (.slice (paR (fieldsT p x)))):=by
 obtain⟨dd,hdd,_⟩:=inst_decl (by decide) hi
 unfold fieldsT
 rw [if_pos hi,hdd,Option.getD_some]
 have hds:=h.decls.2 dd (declT_mem hdd)
 have hfl:=hds.fields.1
 have hn:=ok_RefNames dd.formals hds.formals.1
 have hfi:=ok_Find p x.name
 obtain⟨k,hk,hk2⟩:∃ k:Nat,p.decls[k]? = some dd∧findD x.name p.decls 0=(k:Int):=by
  rcases findD_find x.name p.decls 0 with ⟨_,h2⟩ | ⟨k,e,h1,h2,h3⟩
  ·have:declT p x.name=none:=h2
   rw [hdd] at this;cases this
  ·have:declT p x.name=some e:=h3
   rw [hdd] at this
   obtain rfl:=Option.some.inj this
   exact⟨k,h1,by rw [h2];simp⟩
 rw [hk2] at hfi
 unfold fieldsD
 refine cB func62 ?_
 refine sR q3U ?_
 (refine sG q3U [] 9 [⟨[],[],[5],[5]⟩,⟨[],[],[5],[5]⟩,⟨[],[],[5],[5]⟩,⟨[],[],[5],[5]⟩,⟨[],[],[5],[5]⟩,⟨[],[],[5],[5]⟩,⟨[],[],[5],[5]⟩,⟨[],[],[5],[5]⟩,⟨[5],[5],[],[]⟩] fun K z=>?_;refine ev ?_;refine cc hfi ?_;refine ci (deR_get hk) ?_;apply z;clear z K)
 refine sR q3U ?_
 refine AWp.promote 6 5 6 rfl ?_
 refine kR q3U fun K1 u1=>?_
 refine AWp.block (AWp.forIdx dd.fields (X:=Unit) (fun j _=>[(3,.box 3 0),(5,.box 5 0),(6,.acc 6),(7,intV j)])
  (fun j _=>[(3,.cells [.d (.str x.name),tysV x.args,intV x.pos]),(5,.cells ((deC dd).map .d)),(6,.rows 5 (paR ((dd.fields.take j).map (Param.subst (fnames dd.formals) x.args))))])
  (fun j _=>True) () trivial sS (by simp [ble,bget,paR,deC]) ?_ ?_)
 ·intro _ _
  rw [List.take_length]
  refine kR1 Int.lt_irrefl q3U fun K2 u2=>?_
  refine AWp.stopK rfl ?_
  simp only [thenA,blockA,if_true]
  refine u1 _ _ ?_
  refine sR q3U ?_
  exact aR
 ·intro j _ d hd hmem dp tk hlt _
  rw [tk]
  have hsub:=ok_RSubst (fnames dd.formals) x.args hx.arg d.type (hds.fields.2 d hmem).type
  refine kR1 hlt q3U fun K2 u2=>?_
  refine gI u2 ?_
  clear u2 K2
  refine sK fun K2 u2=>?_
  refine AWp.block ?_
  (refine sV q3U fun K z=>?_;refine ci (paR_get hd) ?_;apply z;clear z K)
  (refine sG q3U [] 7 [] fun K z=>?_;refine ev ?_;refine cc hn ?_;refine cc hsub ?_;apply z;clear z K)
  (refine lV q3U fun K z=>?_;refine⟨by simp,by simp only [List.length_map,List.length_take];unfold lim sm at *;omega,?_⟩;(try refine ev ?_);apply z;clear z K;try simp only [thenA,blockA,if_true])
  refine u2 _ _ ?_
  clear u2 K2
  (refine lV q3U fun K z=>?_;refine cl ?_;apply z;clear z K;try simp only [thenA,blockA,if_true])
  exact⟨(),trivial,sS,by simp [ble,bget,paR,deC,paC,Param.subst]⟩
end Go.Abs

/- table.instance -/
import Derived.Test.YtaneedhchnaniaaGreatDoorQSB
import Derived.Test.YtaneedhchnaniaaGreatDoorQS49
import Derived.Test.YtaneedhchnaniaaGreatDoorQAb7
namespace Go.Abs
set_option linter.unusedSimpArgs false
set_option linter.unusedVariables false
open Go Go.Proofs Tryz
set_option maxRecDepth 100000
set_option maxHeartbeats 1000000
theorem kind_none {p:Prog} {nm:Str} (h:declT p nm=none):kindOf p nm=0∧formalsT p nm=[]:=by
 unfold declT at h
 simp [kindOf,formalsT,declT,h]
theorem kind_some {p:Prog} {nm:Str} {d:Decl} (h:declT p nm=some d):kindOf p nm=d.kind∧formalsT p nm=d.formals:=by
 have h':=h
 unfold declT at h
 simp [kindOf,formalsT,declT,h]
abbrev q1N:List Nat:=[0,1,2,4,6,7,8,9]
theorem ok_instance (p:Prog)(h:p.Sm)(x:Ty)(k:Int)(hk:k≠0):CallOK prog 188 [.dptr (tabC p) 0,tyV x,intV k] (.tuple [deV ((declT p x.name).getD default),boolV (instB p x k)]):=by
 have hg:=ok_get p h x.name []
 rw [tabGet_type] at hg
 rw [show (p.decls.find? fun d=>d.isT x.name)=declT p x.name from rfl] at hg
 have e1:=@kind_none p x.name
 have e2:=@kind_some p x.name
 unfold instB
 generalize declT p x.name=o at *
 refine cB func188 ?_
 refine sR q1N ?_
 refine sC hg q1N ?_
 cases o with
 | none =>
  rw [(e1 rfl).1]
  simp only [Option.isSome,Option.getD_none]
  (refine sG q1N [] 18 [⟨[],[],[],[]⟩,⟨[],[],[],[]⟩,⟨[],[],[],[]⟩,⟨[],[],[],[]⟩,⟨[],[],[],[]⟩,⟨[],[],[],[]⟩,⟨[],[],[],[]⟩,⟨[],[],[],[]⟩,⟨[],[],[],[]⟩,⟨[],[],[6],[]⟩,⟨[],[],[6],[]⟩,⟨[],[],[6],[]⟩,⟨[],[],[6],[]⟩,⟨[],[],[6],[]⟩,⟨[],[],[6],[]⟩,⟨[],[],[6],[]⟩,⟨[],[],[6],[]⟩,⟨[6],[],[],[]⟩] fun K z=>?_;refine ev ?_;apply z;clear z K)
  rw [show decide ((0:Int)=k)=false by simpa using hk.symm,Bool.false_and]
  exact aR
 | some d =>
  obtain⟨q1,q2⟩:=e2 rfl
  rw [q1,q2]
  simp only [Option.isSome,Option.getD_some]
  by_cases h1:d.kind=k
  ·subst h1
   by_cases h2:d.formals.length=x.args.length
   ·have h2':(d.formals.length:Int)=x.args.length:=by omega
    (refine sG q1N [] 18 [⟨[],[],[],[]⟩,⟨[],[],[],[]⟩,⟨[],[],[],[]⟩,⟨[],[],[],[]⟩,⟨[],[],[],[]⟩,⟨[],[],[],[]⟩,⟨[],[],[],[]⟩,⟨[],[],[],[]⟩,⟨[],[],[],[]⟩,⟨[],[],[6],[]⟩,⟨[],[],[6],[]⟩,⟨[],[],[6],[]⟩,⟨[],[],[6],[]⟩,⟨[],[],[6],[]⟩,⟨[],[],[6],[]⟩,⟨[],[],[6],[]⟩,⟨[],[],[6],[]⟩,⟨[6],[],[],[]⟩] fun K z=>?_;refine ev1 h2' ?_;apply z;clear z K)
    rw [decide_eq_true h2,decide_eq_true rfl]
    exact aR
   ·have h2':¬ (d.formals.length:Int)=x.args.length:=by omega
    (refine sG q1N [] 18 [⟨[],[],[],[]⟩,⟨[],[],[],[]⟩,⟨[],[],[],[]⟩,⟨[],[],[],[]⟩,⟨[],[],[],[]⟩,⟨[],[],[],[]⟩,⟨[],[],[],[]⟩,⟨[],[],[],[]⟩,⟨[],[],[],[]⟩,⟨[],[],[6],[]⟩,⟨[],[],[6],[]⟩,⟨[],[],[6],[]⟩,⟨[],[],[6],[]⟩,⟨[],[],[6],[]⟩,⟨[],[],[6],[]⟩,⟨[],[],[6],[]⟩,⟨[],[],[6],[]⟩,⟨[6],[],[],[]⟩] fun K z=>?_;refine ev1 h2' ?_;apply z;clear z K)
    rw [decide_eq_false h2,Bool.and_false]
    exact aR
  ·(refine sG q1N [] 18 [⟨[],[],[],[]⟩,⟨[],[],[],[]⟩,⟨[],[],[],[]⟩,⟨[],[],[],[]⟩,⟨[],[],[],[]⟩,⟨[],[],[],[]⟩,⟨[],[],[],[]⟩,⟨[],[],[],[]⟩,⟨[],[],[],[]⟩,⟨[],[],[6],[]⟩,⟨[],[],[6],[]⟩,⟨[],[],[6],[]⟩,⟨[],[],[6],[]⟩,⟨[],[],[6],[]⟩,⟨[],[],[6],[]⟩,⟨[],[],[6],[]⟩,⟨[],[],[6],[]⟩,⟨[6],[],[],[]⟩] fun K z=>?_;refine ev1 h1 ?_;apply z;clear z K)
   rw [decide_eq_false h1,Bool.false_and]
   exact aR
def Formal.subst (vars:List Str)(args:List Ty)(f:Formal):Formal:=⟨f.name,f.bound.subst vars args,f.pos⟩
def Param.subst (vars:List Str)(args:List Ty)(f:Param):Param:=⟨f.name,f.type.subst vars args,f.pos⟩
def Sig.subst (vars:List Str)(args:List Ty)(s:Sig):Sig:=⟨s.name,s.formals.map (Formal.subst vars args),s.params.map (Param.subst vars args),s.result.subst vars args,s.pos⟩
theorem ok_Subst1 (vars:List Str)(args:List Ty)(ha:∀ u,u∈args→u.Sm)(t:Ty)(h:t.Sm) :
  CallOK prog 274 [tyV t,.dptr [.slice (strR vars)] 0,.dptr [.slice (tyR args)] 0] (tyV (t.subst vars args)):=by
 refine cB func274 ?_
 refine sR [0,1,2,3,4] ?_
 refine sC (ok_Subst vars args ha t h) [0,1,2,3,4] ?_
 exact aR
abbrev siL (s:Sig):List SV:=[.d (.str s.name),.d (.slice (foR s.formals)),.d (.slice (paR s.params)),.d (.str s.result.name),.d (.slice (tyR s.result.args)),.d (.int .i64 s.result.pos),.d (.int .i64 s.pos)]
abbrev si0:List SV:=[.d (.str []),.d .nil,.d .nil,.d (.str []),.d .nil,.d (.int .i64 0),.d (.int .i64 0)]
abbrev subCaps (vars:List Str)(args:List Ty):List SV:=[.dptr [.slice (strR vars)] 0,.dptr [.slice (tyR args)] 0]
abbrev sgC (s:Sig)(vars:List Str)(args:List Ty)(x y:SV):List SV:=[.d (.str s.name),x,y,.d (.str (s.result.subst vars args).name),.d (.slice (tyR (s.result.subst vars args).args)),.d (.int .i64 (s.result.subst vars args).pos),intV s.pos]
abbrev sgO (s:Sig)(vars:List Str)(args:List Ty):SV:=.agg (sgC s vars args (.acc 900) (.acc 901))
abbrev sgB (s:Sig)(vars:List Str)(args:List Ty):Boxes:=[(900,.rows 5 (foR (s.formals.map (Formal.subst vars args)))),(901,.rows 5 (paR (s.params.map (Param.subst vars args))))]
theorem foR_mapT (l:List Formal)(vars:List Str)(args:List Ty)(j:Nat)(d:Formal):foR ((l.take j++[d]).map (Formal.subst vars args))=foR ((l.take j).map (Formal.subst vars args))++[foC (d.subst vars args)]:=by simp [foR]
theorem paR_mapT (l:List Param)(vars:List Str)(args:List Ty)(j:Nat)(d:Param):paR ((l.take j++[d]).map (Param.subst vars args))=paR ((l.take j).map (Param.subst vars args))++[paC (d.subst vars args)]:=by simp [paR]
abbrev q1K:List Nat:=[0,1,2,4,5,7,9,20,21,22,23,42,43,44,45,900,901]
theorem ok_bmapped (vars:List Str)(args:List Ty)(ha:∀ u,u∈args→u.Sm)(s:Sig)(h:s.Sm):CallB prog 273 [siV s,.clo 274 (subCaps vars args)] [] (sgO s vars args) (sgB s vars args):=by
 have hf:∀ t:Ty,t.Sm→CallOK prog 274 (tyV t::subCaps vars args) (tyV (t.subst vars args)):=fun t ht=>ok_Subst1 vars args ha t ht
 have hl1:=h.formals.1
 have hl2:=h.params.1
 refine bB func273 ?_
 refine sR q1K ?_
 (refine sG q1K [] 10 [⟨[],[],[5],[5]⟩,⟨[],[],[5],[5]⟩,⟨[],[],[5],[5]⟩,⟨[],[],[5],[5]⟩,⟨[],[],[5],[5]⟩,⟨[],[],[5],[5]⟩,⟨[],[],[5],[5]⟩,⟨[],[],[5],[5]⟩,⟨[],[],[5],[5]⟩,⟨[5],[5],[],[]⟩] fun K z=>?_;refine ev ?_;refine cc (hf s.result h.result) ?_;apply z;clear z K)
 refine AWp.promoteBox 900 5 5 1 rfl rfl (by decide) ?_
 refine kR q1K fun K1 u1=>?_
 refine AWp.block (AWp.forIdx s.formals (X:=Unit) (fun j _=>[(1,.clo 274 (subCaps vars args)),(2,.box 2 0),(4,.box 4 0),(5,.box 5 0),(20,.d (.slice (foR s.formals))),(21,intV s.formals.length),(22,intV j)])
  (fun j _=>[(2,.cells (siL s)),(4,.cells si0),(5,.cells (sgC s vars args (.acc 900) (.d .nil))),(900,.rows 5 (foR ((s.formals.take j).map (Formal.subst vars args))))])
  (fun j _=>True) () trivial sS (by simp [ble,bget,foR]) ?_ ?_)
 ·intro _ _
  rw [List.take_length]
  refine sR1 Int.lt_irrefl q1K ?_
  refine AWp.stop rfl ?_
  simp only [thenA,blockA,if_true]
  refine u1 _ _ ?_
  clear u1 K1
  refine AWp.promoteBox 901 5 5 2 rfl rfl (by decide) ?_
  refine kR q1K fun K1 u1=>?_
  refine AWp.block (AWp.forIdx s.params (X:=Unit) (fun j _=>[(1,.clo 274 (subCaps vars args)),(2,.box 2 0),(4,.box 4 0),(5,.box 5 0),(42,.d (.slice (paR s.params))),(43,intV s.params.length),(44,intV j)])
   (fun j _=>[(2,.cells (siL s)),(4,.cells si0),(5,.cells (sgC s vars args (.acc 900) (.acc 901))),(900,.rows 5 (foR (s.formals.map (Formal.subst vars args)))),(901,.rows 5 (paR ((s.params.take j).map (Param.subst vars args))))])
   (fun j _=>True) () trivial sS (by simp [ble,bget,paR]) ?_ ?_)
  ·intro _ _
   rw [List.take_length]
   refine sR1 Int.lt_irrefl q1K ?_
   refine AWp.stop rfl ?_
   simp only [thenA,blockA,if_true]
   refine u1 _ _ ?_
   refine sR q1K ?_
   exact AWp.ret ⟨_,by rw [results273];rfl,.inl rfl,by simp [ble,bget]⟩
  ·intro j _ d hd hmem dp tk hlt _
   rw [tk,paR_mapT]
   refine sR1 hlt q1K ?_
   refine AWp.goOn rfl ?_
   refine sK fun K2 u2=>?_
   refine AWp.block ?_
   (refine sV q1K fun K z=>?_;refine ci (paR_get hd) ?_;apply z;clear z K)
   (refine lG q1K [] 12 [] fun K z=>?_;refine ev ?_;refine cc (hf d.type (h.params.2 d hmem).type) ?_;refine⟨by simp,by simp only [List.length_map,List.length_take];unfold lim sm at *;omega,?_⟩;(try refine ev ?_);apply z;clear z K;try simp only [thenA,blockA])
   refine u2 _ _ ?_
   clear u2 K2
   refine lT q1K ?_
   exact⟨(),trivial,sS,by simp [ble,bget,paC,Param.subst]⟩
 ·intro j _ d hd hmem dp tk hlt _
  rw [tk,foR_mapT]
  refine sR1 hlt q1K ?_
  refine AWp.goOn rfl ?_
  refine sK fun K2 u2=>?_
  refine AWp.block ?_
  (refine sV q1K fun K z=>?_;refine ci (foR_get hd) ?_;apply z;clear z K)
  (refine lG q1K [] 12 [] fun K z=>?_;refine ev ?_;refine cc (hf d.bound (h.formals.2 d hmem).bound) ?_;refine⟨by simp,by simp only [List.length_map,List.length_take];unfold lim sm at *;omega,?_⟩;(try refine ev ?_);apply z;clear z K;try simp only [thenA,blockA])
  refine u2 _ _ ?_
  clear u2 K2
  refine lT q1K ?_
  exact⟨(),trivial,sS,by simp [ble,bget,foC,Formal.subst]⟩
theorem ok_BSubstO (vars:List Str)(args:List Ty)(ha:∀ u,u∈args→u.Sm)(s:Sig)(h:s.Sm):CallB prog 211 [siV s,strsV vars,tysV args] [] (sgO s vars args) (sgB s vars args):=by
 have hm:=ok_bmapped vars args ha s h
 refine bB func211 ?_
 refine sR [0,1,2,3,4,5,6,900,901] ?_
 refine AWp.freeze 4 rfl rfl ?_
 refine AWp.freeze 5 rfl rfl ?_
 refine AWp.weaken (sl':=[(3,.box 3 0),(4,.dptr [.slice (strR vars)] 0),(5,.dptr [.slice (tyR args)] 0),(6,.box 6 0)]) (bx':=[(3,.cells (siL s)),(6,.cells si0)])
  (by simp [subSl,SV.sub,SV.subL,sle,vle,sget]) (by simp [subBx,BoxC.sub,SV.subL,SV.sub,ble,bget,berase]) ?_
 (refine AWp.seqR [0,1,2,3,4,5,6,900,901] [800009] (by decide +kernel) fun K z=>?_;refine ev ?_;refine⟨_,_,_,opB_call2 900 901 rfl rfl hm rfl (by decide) (by decide) (by decide) (by decide) rfl rfl,?_⟩;simp only [SV.ren,SV.renL,two,if_true,Nat.reduceEqDiff,if_false];(try refine ev ?_);apply z;clear z K)
 exact AWp.ret ⟨_,by rw [results211];rfl,.inl rfl,by simp [ble,bget]⟩
theorem ok_BSubst (vars:List Str)(args:List Ty)(ha:∀ u,u∈args→u.Sm)(s:Sig)(h:s.Sm):CallOK prog 211 [siV s,strsV vars,tysV args] (siV (s.subst vars args)) :=
 (ok_BSubstO vars args ha s h).pubAll rfl rfl
end Go.Abs

/- table.instance -/
import Derived.Test.YtfjaahliphbklaaGreatDoorJS49
import Derived.Test.YtfjaahliphbklaaGreatDoorJAb7
namespace Go.Abs
set_option linter.unusedSimpArgs false
set_option linter.unusedVariables false
open Go Go.Proofs Tryz
set_option maxRecDepth 100000
set_option maxHeartbeats 1000000
theorem D2z {p:Prog} {nm:Str} (h:A5f p nm=none):A1z p nm=0∧A1f p nm=[]:=by unfold A5f at h;simp [A1z,A1f,A5f,h]
theorem D2h {p:Prog} {nm:Str} {d:Decl} (h:A5f p nm=some d):A1z p nm=d.kind∧A1f p nm=d.formals:=by have h':=h;unfold A5f at h;simp [A1z,A1f,A5f,h]
abbrev q1F:List Nat:=[0,1,2,4,6,7,8,9]
theorem B0c (p:Prog)(h:p.Sm)(x:Ty)(k:Int)(hk:k≠0):A0a prog 146 [.dptr (B0u p) 0,tyV x,A0g k] (.tuple [deV ((A5f p x.name).getD default),A0m (A1w p x k)]):=by
 have hg:=F7j p h x.name [];rw [D6q] at hg;rw [show (p.decls.find? fun d=>d.isT x.name)=A5f p x.name from rfl] at hg;have e1:=@D2z p x.name;have e2:=@D2h p x.name;unfold A1w;generalize A5f p x.name=o at *;refine cB func146 ?_;refine sR q1F ?_;refine sC hg q1F ?_;cases o with
 | none =>
  rw [(e1 rfl).1];simp only [Option.isSome,Option.getD_none]
  (refine sG q1F [] 18 [⟨[],[],[],[]⟩,⟨[],[],[],[]⟩,⟨[],[],[],[]⟩,⟨[],[],[],[]⟩,⟨[],[],[],[]⟩,⟨[],[],[],[]⟩,⟨[],[],[],[]⟩,⟨[],[],[],[]⟩,⟨[],[],[],[]⟩,⟨[],[],[6],[]⟩,⟨[],[],[6],[]⟩,⟨[],[],[6],[]⟩,⟨[],[],[6],[]⟩,⟨[],[],[6],[]⟩,⟨[],[],[6],[]⟩,⟨[],[],[6],[]⟩,⟨[],[],[6],[]⟩,⟨[6],[],[],[]⟩] fun K z=>?_;refine ev ?_;apply z;clear z K)
  rw [show decide ((0:Int)=k)=false by simpa using hk.symm,Bool.false_and];exact aR
 | some d =>
  obtain⟨q1,q2⟩:=e2 rfl;rw [q1,q2];simp only [Option.isSome,Option.getD_some];by_cases h1:d.kind=k
  ·subst h1;by_cases h2:d.formals.length=x.args.length
   ·have h2':(d.formals.length:Int)=x.args.length:=by omega
    (refine sG q1F [] 18 [⟨[],[],[],[]⟩,⟨[],[],[],[]⟩,⟨[],[],[],[]⟩,⟨[],[],[],[]⟩,⟨[],[],[],[]⟩,⟨[],[],[],[]⟩,⟨[],[],[],[]⟩,⟨[],[],[],[]⟩,⟨[],[],[],[]⟩,⟨[],[],[6],[]⟩,⟨[],[],[6],[]⟩,⟨[],[],[6],[]⟩,⟨[],[],[6],[]⟩,⟨[],[],[6],[]⟩,⟨[],[],[6],[]⟩,⟨[],[],[6],[]⟩,⟨[],[],[6],[]⟩,⟨[6],[],[],[]⟩] fun K z=>?_;refine ev1 h2' ?_;apply z;clear z K)
    rw [decide_eq_true h2,decide_eq_true rfl];exact aR
   ·have h2':¬ (d.formals.length:Int)=x.args.length:=by omega
    (refine sG q1F [] 18 [⟨[],[],[],[]⟩,⟨[],[],[],[]⟩,⟨[],[],[],[]⟩,⟨[],[],[],[]⟩,⟨[],[],[],[]⟩,⟨[],[],[],[]⟩,⟨[],[],[],[]⟩,⟨[],[],[],[]⟩,⟨[],[],[],[]⟩,⟨[],[],[6],[]⟩,⟨[],[],[6],[]⟩,⟨[],[],[6],[]⟩,⟨[],[],[6],[]⟩,⟨[],[],[6],[]⟩,⟨[],[],[6],[]⟩,⟨[],[],[6],[]⟩,⟨[],[],[6],[]⟩,⟨[6],[],[],[]⟩] fun K z=>?_;refine ev1 h2' ?_;apply z;clear z K)
    rw [decide_eq_false h2,Bool.and_false];exact aR
  ·(refine sG q1F [] 18 [⟨[],[],[],[]⟩,⟨[],[],[],[]⟩,⟨[],[],[],[]⟩,⟨[],[],[],[]⟩,⟨[],[],[],[]⟩,⟨[],[],[],[]⟩,⟨[],[],[],[]⟩,⟨[],[],[],[]⟩,⟨[],[],[],[]⟩,⟨[],[],[6],[]⟩,⟨[],[],[6],[]⟩,⟨[],[],[6],[]⟩,⟨[],[],[6],[]⟩,⟨[],[],[6],[]⟩,⟨[],[],[6],[]⟩,⟨[],[],[6],[]⟩,⟨[],[],[6],[]⟩,⟨[6],[],[],[]⟩] fun K z=>?_;refine ev1 h1 ?_;apply z;clear z K)
   rw [decide_eq_false h1,Bool.false_and];exact aR
def Formal.subst (vars:List Str)(args:List Ty)(f:Formal):Formal:=⟨f.name,f.bound.subst vars args,f.pos⟩
def Param.subst (vars:List Str)(args:List Ty)(f:Param):Param:=⟨f.name,f.type.subst vars args,f.pos⟩
def Sig.subst (vars:List Str)(args:List Ty)(s:Sig):Sig:=⟨s.name,s.formals.map (Formal.subst vars args),s.params.map (Param.subst vars args),s.result.subst vars args,s.pos⟩
theorem F1c (vars:List Str)(args:List Ty)(ha:∀ u,u∈args→u.Sm)(t:Ty)(h:t.Sm) :
  A0a prog 214 [tyV t,.dptr [.slice (A2x vars)] 0,.dptr [.slice (tyR args)] 0] (tyV (t.subst vars args)):=by
 refine cB func214 ?_;refine sR [0,1,2,3,4] ?_;refine sC (B5w vars args ha t h) [0,1,2,3,4] ?_;exact aR
abbrev siL (s:Sig):List SV:=[.d (.str s.name),.d (.slice (foR s.formals)),.d (.slice (paR s.params)),.d (.str s.result.name),.d (.slice (tyR s.result.args)),.d (.int .i64 s.result.pos),.d (.int .i64 s.pos)]
abbrev si0:List SV:=[.d (.str []),.d .nil,.d .nil,.d (.str []),.d .nil,.d (.int .i64 0),.d (.int .i64 0)]
abbrev C8j (vars:List Str)(args:List Ty):List SV:=[.dptr [.slice (A2x vars)] 0,.dptr [.slice (tyR args)] 0]
abbrev sgC (s:Sig)(vars:List Str)(args:List Ty)(x y:SV):List SV:=[.d (.str s.name),x,y,.d (.str (s.result.subst vars args).name),.d (.slice (tyR (s.result.subst vars args).args)),.d (.int .i64 (s.result.subst vars args).pos),A0g s.pos]
abbrev sgO (s:Sig)(vars:List Str)(args:List Ty):SV:=.agg (sgC s vars args (.acc 900) (.acc 901))
abbrev sgB (s:Sig)(vars:List Str)(args:List Ty):A0b:=[(900,.rows 5 (foR (s.formals.map (Formal.subst vars args)))),(901,.rows 5 (paR (s.params.map (Param.subst vars args))))]
theorem E0j (l:List Formal)(vars:List Str)(args:List Ty)(j:Nat)(d:Formal):foR ((l.take j++[d]).map (Formal.subst vars args))=foR ((l.take j).map (Formal.subst vars args))++[foC (d.subst vars args)]:=by simp [foR]
theorem D9i (l:List Param)(vars:List Str)(args:List Ty)(j:Nat)(d:Param):paR ((l.take j++[d]).map (Param.subst vars args))=paR ((l.take j).map (Param.subst vars args))++[paC (d.subst vars args)]:=by simp [paR]
abbrev q1C:List Nat:=[0,1,2,4,5,7,9,20,21,22,23,42,43,44,45,900,901]
theorem E5k (vars:List Str)(args:List Ty)(ha:∀ u,u∈args→u.Sm)(s:Sig)(h:s.Sm):A1p prog 213 [siV s,.clo 214 (C8j vars args)] [] (sgO s vars args) (sgB s vars args):=by
 have hf:∀ t:Ty,t.Sm→A0a prog 214 (tyV t::C8j vars args) (tyV (t.subst vars args)):=fun t ht=>F1c vars args ha t ht;have hl1:=h.formals.1;have hl2:=h.params.1;refine bB func213 ?_;refine sR q1C ?_
 (refine sG q1C [] 10 [⟨[],[],[5],[5]⟩,⟨[],[],[5],[5]⟩,⟨[],[],[5],[5]⟩,⟨[],[],[5],[5]⟩,⟨[],[],[5],[5]⟩,⟨[],[],[5],[5]⟩,⟨[],[],[5],[5]⟩,⟨[],[],[5],[5]⟩,⟨[],[],[5],[5]⟩,⟨[5],[5],[],[]⟩] fun K z=>?_;refine ev ?_;refine cc (hf s.result h.result) ?_;apply z;clear z K)
 refine AWp.promoteBox 900 5 5 1 rfl rfl (by decide) ?_;refine kR q1C fun K1 u1=>?_;refine AWp.bb (AWp.ii s.formals (X:=Unit) (fun j _=>[(1,.clo 214 (C8j vars args)),(2,.box 2 0),(4,.box 4 0),(5,.box 5 0),(20,.d (.slice (foR s.formals))),(21,A0g s.formals.length),(22,A0g j)])
  (fun j _=>[(2,.cells (siL s)),(4,.cells si0),(5,.cells (sgC s vars args (.acc 900) (.d .nil))),(900,.rows 5 (foR ((s.formals.take j).map (Formal.subst vars args))))])
  (fun j _=>True) () trivial sS (by simp [ble,A0h,foR]) ?_ ?_)
 ·intro _ _;rw [List.take_length];refine sR1 Int.lt_irrefl q1C ?_;refine AWp.stop rfl ?_;simp only [TB];refine u1 _ _ ?_;clear u1 K1;refine AWp.promoteBox 901 5 5 2 rfl rfl (by decide) ?_;refine kR q1C fun K1 u1=>?_;refine AWp.bb (AWp.ii s.params (X:=Unit) (fun j _=>[(1,.clo 214 (C8j vars args)),(2,.box 2 0),(4,.box 4 0),(5,.box 5 0),(42,.d (.slice (paR s.params))),(43,A0g s.params.length),(44,A0g j)])
   (fun j _=>[(2,.cells (siL s)),(4,.cells si0),(5,.cells (sgC s vars args (.acc 900) (.acc 901))),(900,.rows 5 (foR (s.formals.map (Formal.subst vars args)))),(901,.rows 5 (paR ((s.params.take j).map (Param.subst vars args))))])
   (fun j _=>True) () trivial sS (by simp [ble,A0h,paR]) ?_ ?_)
  ·intro _ _;rw [List.take_length];refine sR1 Int.lt_irrefl q1C ?_;refine AWp.stop rfl ?_;simp only [TB];refine u1 _ _ ?_;refine sR q1C ?_;exact AWp.ret ⟨_,by rw [results213];rfl,.inl rfl,by simp [ble,A0h]⟩
  ·intro j _ d hd hmem dp tk hlt _;rw [tk,D9i];refine sR1 hlt q1C ?_;refine AWp.goOn rfl ?_;refine sK fun K2 u2=>?_;refine AWp.bb ?_
   (refine sV q1C fun K z=>?_;refine ci (A0r hd) ?_;apply z;clear z K)
   (refine lG q1C [] 12 [] fun K z=>?_;refine ev ?_;refine cc (hf d.type (h.params.2 d hmem).type) ?_;refine⟨by simp,by simp only [List.length_map,List.length_take];unfold lim sm at *;omega,?_⟩;(try refine ev ?_);apply z;clear z K;try simp only [A0c,A0e])
   refine u2 _ _ ?_;clear u2 K2;refine lT q1C ?_;exact⟨(),trivial,sS,by simp [ble,A0h,paC,Param.subst]⟩
 ·intro j _ d hd hmem dp tk hlt _;rw [tk,E0j];refine sR1 hlt q1C ?_;refine AWp.goOn rfl ?_;refine sK fun K2 u2=>?_;refine AWp.bb ?_
  (refine sV q1C fun K z=>?_;refine ci (A0v hd) ?_;apply z;clear z K)
  (refine lG q1C [] 12 [] fun K z=>?_;refine ev ?_;refine cc (hf d.bound (h.formals.2 d hmem).bound) ?_;refine⟨by simp,by simp only [List.length_map,List.length_take];unfold lim sm at *;omega,?_⟩;(try refine ev ?_);apply z;clear z K;try simp only [A0c,A0e])
  refine u2 _ _ ?_;clear u2 K2;refine lT q1C ?_;exact⟨(),trivial,sS,by simp [ble,A0h,foC,Formal.subst]⟩
theorem C6v (vars:List Str)(args:List Ty)(ha:∀ u,u∈args→u.Sm)(s:Sig)(h:s.Sm):A1p prog 156 [siV s,A1m vars,A3s args] [] (sgO s vars args) (sgB s vars args):=by
 have hm:=E5k vars args ha s h;refine bB func156 ?_;refine sR [0,1,2,3,4,5,6,900,901] ?_;refine AWp.zz 4 rfl rfl ?_;refine AWp.zz 5 rfl rfl ?_;refine AWp.ww (sl':=[(3,.box 3 0),(4,.dptr [.slice (A2x vars)] 0),(5,.dptr [.slice (tyR args)] 0),(6,.box 6 0)]) (bx':=[(3,.cells (siL s)),(6,.cells si0)])
  (by simp [B1e,SV.sub,SV.subL,sle,vle,A0k]) (by simp [A9n,BoxC.sub,SV.subL,SV.sub,ble,A0h,A0o]) ?_
 (refine AWp.seqR [0,1,2,3,4,5,6,900,901] [800009] (by decide +kernel) fun K z=>?_;refine ev ?_;refine⟨_,_,_,C1c 900 901 rfl rfl hm rfl (by decide) (by decide) (by decide) (by decide) rfl rfl,?_⟩;simp only [SV.ren,SV.renL,two,if_true,Nat.reduceEqDiff,if_false];(try refine ev ?_);apply z;clear z K)
 exact AWp.ret ⟨_,by rw [results156];rfl,.inl rfl,by simp [ble,A0h]⟩
theorem C1b (vars:List Str)(args:List Ty)(ha:∀ u,u∈args→u.Sm)(s:Sig)(h:s.Sm):A0a prog 156 [siV s,A1m vars,A3s args] (siV (s.subst vars args)) :=
 (C6v vars args ha s h).pubAll rfl rfl
abbrev q1D:List Nat:=[0,1,2,3,6,7,8,9,10,11,26,50,900,901]
theorem B9g (vars:List Str)(args:List Ty)(ha:∀ u,u∈args→u.Sm)(s:Sig)(h:s.Sm):A1p prog 162 [siV s,A1m vars,A3s args] [] (sgO s vars args) (sgB s vars args):=by
 have hl1:=h.formals.1;have hl2:=h.params.1;refine bB func162 ?_;refine sR q1D ?_
 (refine sG q1D [] 11 [⟨[],[],[7],[7]⟩,⟨[],[],[7],[7]⟩,⟨[],[],[7],[7]⟩,⟨[],[],[7],[7]⟩,⟨[],[],[7],[7]⟩,⟨[],[],[7],[7]⟩,⟨[],[],[7],[7]⟩,⟨[],[],[7],[7]⟩,⟨[],[],[7],[7]⟩,⟨[],[],[7],[7]⟩,⟨[7],[7],[],[]⟩] fun K z=>?_;refine ev ?_;refine cc (A2j vars args ha s.result h.result) ?_;apply z;clear z K)
 refine AWp.promoteBox 900 5 7 1 rfl rfl (by decide) ?_;refine kR q1D fun K1 u1=>?_;refine AWp.bb (AWp.ii s.formals (X:=Unit) (fun j _=>[(1,A1m vars),(2,A3s args),(3,.box 3 0),(6,.box 6 0),(7,.box 7 0),(8,A0g j)])
  (fun j _=>[(3,.cells (siL s)),(6,.cells si0),(7,.cells (sgC s vars args (.acc 900) (.d .nil))),(900,.rows 5 (foR ((s.formals.take j).map (Formal.subst vars args))))])
  (fun j _=>True) () trivial sS (by simp [ble,A0h,foR]) ?_ ?_)
 ·intro _ _;rw [List.take_length];refine kR1 Int.lt_irrefl q1D fun K2 u2=>?_;refine AWp.ss rfl ?_;simp only [TB];refine u1 _ _ ?_;clear u2 K2 u1 K1;refine AWp.promoteBox 901 5 7 2 rfl rfl (by decide) ?_;refine kR q1D fun K1 u1=>?_;refine AWp.bb (AWp.ii s.params (X:=Unit) (fun j _=>[(1,A1m vars),(2,A3s args),(3,.box 3 0),(6,.box 6 0),(7,.box 7 0),(10,A0g j)])
   (fun j _=>[(3,.cells (siL s)),(6,.cells si0),(7,.cells (sgC s vars args (.acc 900) (.acc 901))),(900,.rows 5 (foR (s.formals.map (Formal.subst vars args)))),(901,.rows 5 (paR ((s.params.take j).map (Param.subst vars args))))])
   (fun j _=>True) () trivial sS (by simp [ble,A0h,paR]) ?_ ?_)
  ·intro _ _;rw [List.take_length];refine kR1 Int.lt_irrefl q1D fun K2 u2=>?_;refine AWp.ss rfl ?_;simp only [TB];refine u1 _ _ ?_;refine sR q1D ?_;exact AWp.ret ⟨_,by rw [results162];rfl,.inl rfl,by simp [ble,A0h]⟩
  ·intro j _ d hd hmem dp tk hlt _;rw [tk,D9i];refine kR1 hlt q1D fun K2 u2=>?_;refine gI u2 ?_;clear u2 K2;refine sK fun K2 u2=>?_;refine AWp.bb ?_
   (refine sV q1D fun K z=>?_;refine ci (A0r hd) ?_;apply z;clear z K)
   refine sC (A2j vars args ha d.type (h.params.2 d hmem).type) q1D ?_
   (refine lV q1D fun K z=>?_;refine⟨by simp,by simp only [List.length_map,List.length_take];unfold lim sm at *;omega,?_⟩;(try refine ev ?_);apply z;clear z K;try simp only [A0c,A0e])
   refine u2 _ _ ?_;clear u2 K2;refine lT q1D ?_;exact⟨(),trivial,sS,by simp [ble,A0h,paC,Param.subst]⟩
 ·intro j _ d hd hmem dp tk hlt _;rw [tk,E0j];refine kR1 hlt q1D fun K2 u2=>?_;refine gI u2 ?_;clear u2 K2;refine sK fun K2 u2=>?_;refine AWp.bb ?_
  (refine sV q1D fun K z=>?_;refine ci (A0v hd) ?_;apply z;clear z K)
  refine sC (A2j vars args ha d.bound (h.formals.2 d hmem).bound) q1D ?_
  (refine lV q1D fun K z=>?_;refine⟨by simp,by simp only [List.length_map,List.length_take];unfold lim sm at *;omega,?_⟩;(try refine ev ?_);apply z;clear z K;try simp only [A0c,A0e])
  refine u2 _ _ ?_;clear u2 K2;refine lT q1D ?_;exact⟨(),trivial,sS,by simp [ble,A0h,foC,Formal.subst]⟩
theorem C1w (vars:List Str)(args:List Ty)(ha:∀ u,u∈args→u.Sm)(s:Sig)(h:s.Sm):A0a prog 162 [siV s,A1m vars,A3s args] (siV (s.subst vars args)) :=
 (B9g vars args ha s h).pubAll rfl rfl
end Go.Abs

/- table.instance -/
import Derived.Test.YtbhbfpjnenekpaaGreatDoorJSB
import Derived.Test.YtbhbfpjnenekpaaGreatDoorJS47
namespace Go.Abs
set_option linter.unusedSimpArgs false
set_option linter.unusedVariables false
open Go Go.Proofs
set_option maxRecDepth 100000
set_option maxHeartbeats 1000000
theorem kind_none {p:Prog} {nm:Str} (h:declT p nm=none):kindOf p nm=0∧formalsT p nm=[]:=by
 unfold declT at h
 simp [kindOf,formalsT,declT,h]
theorem kind_some {p:Prog} {nm:Str} {d:Decl} (h:declT p nm=some d):kindOf p nm=d.kind∧formalsT p nm=d.formals:=by
 have h':=h
 unfold declT at h
 simp [kindOf,formalsT,declT,h]
abbrev q1F:List Nat:=[0,1,2,4,6,7,8,9]
theorem ok_instance (p:Prog)(h:p.Sm)(x:Ty)(k:Int)(hk:k≠0):CallOK Tryz.prog 181 [.dptr (tabC p) 0,tyV x,intV k] (.tuple [deV ((declT p x.name).getD default),boolV (instB p x k)]):=by
 have hg:=ok_get p h x.name []
 rw [tabGet_type] at hg
 rw [show (p.decls.find? fun d=>d.isT x.name)=declT p x.name from rfl] at hg
 have e1:=@kind_none p x.name
 have e2:=@kind_some p x.name
 unfold instB
 generalize declT p x.name=o at *
 refine cB Tryz.func181 ?_
 refine sR q1F ?_
 refine sC hg q1F ?_
 cases o with
 | none =>
  rw [(e1 rfl).1]
  simp only [Option.isSome,Option.getD_none]
  (refine sG q1F [] 18 [⟨[],[],[],[]⟩,⟨[],[],[],[]⟩,⟨[],[],[],[]⟩,⟨[],[],[],[]⟩,⟨[],[],[],[]⟩,⟨[],[],[],[]⟩,⟨[],[],[],[]⟩,⟨[],[],[],[]⟩,⟨[],[],[],[]⟩,⟨[],[],[6],[]⟩,⟨[],[],[6],[]⟩,⟨[],[],[6],[]⟩,⟨[],[],[6],[]⟩,⟨[],[],[6],[]⟩,⟨[],[],[6],[]⟩,⟨[],[],[6],[]⟩,⟨[],[],[6],[]⟩,⟨[6],[],[],[]⟩] fun K z=>?_;refine ev ?_;apply z;clear z K)
  rw [show decide ((0:Int)=k)=false by simpa using hk.symm,Bool.false_and]
  exact aR
 | some d =>
  obtain⟨q1,q2⟩:=e2 rfl
  rw [q1,q2]
  simp only [Option.isSome,Option.getD_some]
  by_cases h1:d.kind=k
  ·subst h1
   by_cases h2:d.formals.length=x.args.length
   ·have h2':(d.formals.length:Int)=x.args.length:=by omega
    (refine sG q1F [] 18 [⟨[],[],[],[]⟩,⟨[],[],[],[]⟩,⟨[],[],[],[]⟩,⟨[],[],[],[]⟩,⟨[],[],[],[]⟩,⟨[],[],[],[]⟩,⟨[],[],[],[]⟩,⟨[],[],[],[]⟩,⟨[],[],[],[]⟩,⟨[],[],[6],[]⟩,⟨[],[],[6],[]⟩,⟨[],[],[6],[]⟩,⟨[],[],[6],[]⟩,⟨[],[],[6],[]⟩,⟨[],[],[6],[]⟩,⟨[],[],[6],[]⟩,⟨[],[],[6],[]⟩,⟨[6],[],[],[]⟩] fun K z=>?_;refine ev1 h2' ?_;apply z;clear z K)
    rw [decide_eq_true h2,decide_eq_true rfl]
    exact aR
   ·have h2':¬ (d.formals.length:Int)=x.args.length:=by omega
    (refine sG q1F [] 18 [⟨[],[],[],[]⟩,⟨[],[],[],[]⟩,⟨[],[],[],[]⟩,⟨[],[],[],[]⟩,⟨[],[],[],[]⟩,⟨[],[],[],[]⟩,⟨[],[],[],[]⟩,⟨[],[],[],[]⟩,⟨[],[],[],[]⟩,⟨[],[],[6],[]⟩,⟨[],[],[6],[]⟩,⟨[],[],[6],[]⟩,⟨[],[],[6],[]⟩,⟨[],[],[6],[]⟩,⟨[],[],[6],[]⟩,⟨[],[],[6],[]⟩,⟨[],[],[6],[]⟩,⟨[6],[],[],[]⟩] fun K z=>?_;refine ev1 h2' ?_;apply z;clear z K)
    rw [decide_eq_false h2,Bool.and_false]
    exact aR
  ·(refine sG q1F [] 18 [⟨[],[],[],[]⟩,⟨[],[],[],[]⟩,⟨[],[],[],[]⟩,⟨[],[],[],[]⟩,⟨[],[],[],[]⟩,⟨[],[],[],[]⟩,⟨[],[],[],[]⟩,⟨[],[],[],[]⟩,⟨[],[],[],[]⟩,⟨[],[],[6],[]⟩,⟨[],[],[6],[]⟩,⟨[],[],[6],[]⟩,⟨[],[],[6],[]⟩,⟨[],[],[6],[]⟩,⟨[],[],[6],[]⟩,⟨[],[],[6],[]⟩,⟨[],[],[6],[]⟩,⟨[6],[],[],[]⟩] fun K z=>?_;refine ev1 h1 ?_;apply z;clear z K)
   rw [decide_eq_false h1,Bool.false_and]
   exact aR
end Go.Abs

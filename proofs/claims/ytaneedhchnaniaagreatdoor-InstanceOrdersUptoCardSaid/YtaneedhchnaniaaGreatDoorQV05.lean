/- step: selection, call, assertion; what a redex becomes -/
import Derived.Test.YtaneedhchnaniaaGreatDoorQS25
import Derived.Test.YtaneedhchnaniaaGreatDoorQS36
import Derived.Test.YtaneedhchnaniaaGreatDoorQAb21
import Derived.Test.YtaneedhchnaniaaGreatDoorQS49
import Derived.Test.YtaneedhchnaniaaGreatDoorQFB
namespace Go.Abs
set_option linter.unusedSimpArgs false
set_option linter.unusedVariables false
open Go Go.Proofs
set_option maxRecDepth 100000
set_option maxHeartbeats 1000000
def selE (p:Prog)(e v:Ex):Ex × Int :=
 if instB p v.type 1=true∧0≤idxF (fun f:Param=>decide (f.name=e.name)) (fieldsT p v.type)∧idxF (fun f:Param=>decide (f.name=e.name)) (fieldsT p v.type) < v.kids.length then
  ((v.kids[(idxF (fun f:Param=>decide (f.name=e.name)) (fieldsT p v.type)).toNat]?).getD v,1) else (e,4)
def asrtE (p:Prog)(e v:Ex):Ex × Int:=if implB p [] v.type e.type=true then (v,1) else (e,3)
def calledE (e v:Ex)(d:Decl):Ex:=(d.body.subst (d.vars++fnames d.sig.formals) (v.type.args++e.targs)).repl (d.recv::d.sig.params.map (·.name)) e.kids
def callE (p:Prog)(e v:Ex):Ex × Int:=match methD p v.type e.name with
 | none=>(e,4)
 | some d=>if d.sig.formals.length=e.targs.length∧d.sig.params.length+1=e.kids.length then (calledE e v d,1) else (e,4)
def redexE (p:Prog)(e:Ex):Ex × Int:=if e.kind=3 then (e,2) else match e.kids[0]? with
 | none=>(e,4)
 | some v=>if e.kind=2 then callE p e v else if e.kind=4 then selE p e v else if e.kind=5 then asrtE p e v else (e,4)
mutual
def stepE (p:Prog):Ex→Ex × Int
 | .mk k n t a ks q=>match stepL p ks with
  | some (ks',o)=>if o=1 then (.mk k n t a ks' q,1) else (.mk k n t a ks q,o)
  | none=>redexE p (.mk k n t a ks q)
def stepL (p:Prog):List Ex→Option (List Ex × Int)
 | []=>none
 | k::ks=>if isVal k=true then (stepL p ks).map fun r=>(k::r.1,r.2) else some ((stepE p k).1::ks,(stepE p k).2)
end
def StepsSm (p:Prog):Nat→Ex→Prop
 | 0,e=>e.Sm
 | n+1,e=>e.Sm∧((stepE p e).2=1→StepsSm p n (stepE p e).1)
theorem StepsSm.sm {p:Prog}:∀ {n:Nat} {e:Ex},StepsSm p n e→e.Sm
 | 0,_,h=>h
 | _+1,_,h=>h.1
def Decl.noneB (d:Decl):Bool:=decide (d.recv=[]) && (decide (d.vars.length=0) && (sameSi d.sig sig0 && sameE d.body ex0))
def Decl.right3 (d:Decl):Bool:=if d.kind=3 then isName d.recv && (decide ((d.formals.length:Int)+(d.fields.length:Int)+(d.sigs.length:Int)=0) && (d.sig.right && d.body.right))
 else d.noneB && ((decide (d.kind=1) && decide (d.sigs.length=0)) || (decide (d.kind=2) && decide (d.fields.length=0)))
def Decl.right (d:Decl):Bool:=isName d.name && (foRight d.formals && (paRight d.fields && (d.sigs.all Sig.right && (d.vars.all isName && d.right3))))
structure Decl.Ln (d:Decl):Prop where
 formals:d.formals.length≤sm
 fields:d.fields.length≤sm
 sigs:d.sigs.length≤3*sm
 vars:d.vars.length≤sm
 none:¬ d.kind=3→d.sig.Lm∧d.body.Lm
def Prog.right (p:Prog):Bool:=p.decls.all Decl.right && p.main.right
structure Res where
 pos:Int
 bad:Bool
 large:Bool
def badR (n:Int):Res:=⟨n,true,false⟩
structure TCtx where
 p:Prog
 strict:Bool
 env:List Formal
 vars:List Param
def ty0:Ty:=.mk [] [] 0
def noT (n:Int):Ty × Res:=(ty0,badR n)
abbrev TO:=Ty × Option Int
def noI (n:Int):TO:=(ty0,some n)
def Agree (a:Ty × Res)(b:TO):Prop:=a.2.large=true∧a.2.bad=true∨a.2.large=false∧(a.2.bad=true∧b.2=some a.2.pos∨a.2.bad=false∧a.2.pos=0∧b=(a.1,none))
theorem Agree.no (n:Int):Agree (noT n) (noI n):=.inr ⟨rfl,.inl ⟨rfl,rfl⟩⟩
abbrev tyS (t:Ty):List SV:=[.d (.str t.name),.d (.slice (tyR t.args)),.d (.int .i64 t.pos)]
mutual
def listE:Ex→List Ex
 | .mk k n t a ks q=>.mk k n t a ks q::listEL ks
def listEL:List Ex→List Ex
 | []=>[]
 | e::es=>listE e++listEL es
end
theorem listE_eq (e:Ex):listE e=e::listEL e.kids:=by cases e;rw [listE];rfl
theorem listEL_append:∀ a b:List Ex,listEL (a++b)=listEL a++listEL b
 | [],_=>rfl
 | x::a,b=>by simp only [List.cons_append,listEL,listEL_append a b,List.append_assoc]
end Go.Abs

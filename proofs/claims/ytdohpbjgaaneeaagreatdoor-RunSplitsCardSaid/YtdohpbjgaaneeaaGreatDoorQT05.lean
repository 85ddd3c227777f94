/- typing: inversion; what a substitution of types and of values keeps -/
import Derived.Test.YtdohpbjgaaneeaaGreatDoorQT02
import Derived.Test.YtdohpbjgaaneeaaGreatDoorQS43
namespace Go.Abs
set_option linter.unusedSimpArgs false
set_option linter.unusedVariables false
open Go Go.Proofs
set_option maxRecDepth 100000
set_option maxHeartbeats 1000000
section
variable {p:Prog} {env env':List Formal} {v:List Str} {a:List Ty}
theorem erepl_eq (names:List Str)(vals:List Ex)(e:Ex):e.repl names vals=replG names vals (e.kidded (e.kids.map (Ex.repl names vals))):=by
 unfold Ex.repl
 rw [mapped_eq]
end
end Go.Abs
/- a step keeps the type of an expression, or makes it smaller -/
namespace Go.Abs
set_option linter.unusedSimpArgs false
set_option linter.unusedVariables false
open Go Go.Proofs
set_option maxRecDepth 100000
set_option maxHeartbeats 1000000
section
variable {p:Prog}
structure Called (p:Prog)(d:Decl)(x:Ty)(targs:List Ty):Prop where
 sb:Sb p (envR p d++d.sig.formals) [] (d.vars++fnames d.sig.formals) (x.args++targs)
 wf:∀ u,u∈x.args++targs→chk p [] u=none
 self:((selfT d).subst (d.vars++fnames d.sig.formals) (x.args++targs)).er=x.er
 inst:∀ b:Ty,chk p (envR p d++d.sig.formals) b=none→((b.subst (fnames d.sig.formals) (localTs d.sig.formals.length)).subst d.vars x.args).subst (fnames d.sig.canon.formals) targs=b.subst (d.vars++fnames d.sig.formals) (x.args++targs)
end
end Go.Abs
/- no expression with a type is stuck -/
namespace Go.Abs
set_option linter.unusedSimpArgs false
set_option linter.unusedVariables false
open Go Go.Proofs
set_option maxRecDepth 100000
set_option maxHeartbeats 1000000
end Go.Abs

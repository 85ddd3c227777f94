/- step: selection, call, assertion; what a redex becomes -/
import Derived.Test.YtfjaahliphbklaaGreatDoorJS25
import Derived.Test.YtfjaahliphbklaaGreatDoorJS36
namespace Go.Abs
set_option linter.unusedSimpArgs false
set_option linter.unusedVariables false
open Go Go.Proofs
set_option maxRecDepth 100000
set_option maxHeartbeats 1000000
def G6c (p:Prog)(e v:Ex):Ex × Int :=
 if A1w p v.type 1=true∧0≤B0h (fun f:Param=>decide (f.name=e.name)) (A1c p v.type)∧B0h (fun f:Param=>decide (f.name=e.name)) (A1c p v.type) < v.kids.length then
  ((v.kids[(B0h (fun f:Param=>decide (f.name=e.name)) (A1c p v.type)).toNat]?).getD v,1) else (e,4)
def G5m (p:Prog)(e v:Ex):Ex × Int:=if A5x p [] v.type e.type=true then (v,1) else (e,3)
def G1p (e v:Ex)(d:Decl):Ex:=(d.body.subst (d.vars++A0d d.sig.formals) (v.type.args++e.targs)).repl (d.recv::d.sig.params.map (·.name)) e.kids
def G4z (p:Prog)(e v:Ex):Ex × Int:=match A8q p v.type e.name with
 | none=>(e,4)
 | some d=>if d.sig.formals.length=e.targs.length∧d.sig.params.length+1=e.kids.length then (G1p e v d,1) else (e,4)
theorem A7g {p:Prog} (h:p.Sm)(x:Ty):(A1c p x).length≤sm:=by
 unfold A1c;split
 ·rename_i hi;obtain⟨d,hd,_⟩:=A3n (by decide) hi;rw [hd,Option.getD_some];unfold B4q;rw [List.length_map];exact (h.decls.2 d (A3d hd)).fields.1
 ·simp
end Go.Abs

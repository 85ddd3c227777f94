/- step: selection, call, assertion; what a redex becomes -/
import Derived.Test.YtbhbfpjnenekpaaGreatDoorJS25
import Derived.Test.YtbhbfpjnenekpaaGreatDoorJS36
import Derived.Test.YtbhbfpjnenekpaaGreatDoorJAb11
namespace Go.Abs
set_option linter.unusedSimpArgs false
set_option linter.unusedVariables false
open Go Go.Proofs
set_option maxRecDepth 100000
set_option maxHeartbeats 1000000
def selE (p:Prog)(e v:Ex):Ex × Int :=
 if instB p v.type 1=true∧0≤idxF (fun f:Param=>decide (f.name=e.name)) (fieldsT p v.type)∧idxF (fun f:Param=>decide (f.name=e.name)) (fieldsT p v.type) < v.kids.length then
  ((v.kids[(idxF (fun f:Param=>decide (f.name=e.name)) (fieldsT p v.type)).toNat]?).getD v,1) else (e,4)
def asrtE (p:Prog)(e v:Ex):Ex × Int:=if implB p [] v.type e.type=true then (v,1) else (e,3)
def calledE (e v:Ex)(d:Decl):Ex:=(d.body.subst (d.vars++fnames d.sig.formals) (v.type.args++e.targs)).repl (d.recv::d.sig.params.map (·.name)) e.kids
def callE (p:Prog)(e v:Ex):Ex × Int:=match methD p v.type e.name with
 | none=>(e,4)
 | some d=>if d.sig.formals.length=e.targs.length∧d.sig.params.length+1=e.kids.length then (calledE e v d,1) else (e,4)
theorem fieldsT_len {p:Prog} (h:p.Sm)(x:Ty):(fieldsT p x).length≤sm:=by
 unfold fieldsT
 split
 ·rename_i hi
  obtain⟨d,hd,_⟩:=inst_decl (by decide) hi
  rw [hd,Option.getD_some]
  unfold fieldsD
  rw [List.length_map]
  exact (h.decls.2 d (declT_mem hd)).fields.1
 ·simp
end Go.Abs

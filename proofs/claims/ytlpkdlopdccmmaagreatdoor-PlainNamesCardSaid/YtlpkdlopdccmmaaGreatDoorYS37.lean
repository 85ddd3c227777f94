/- step: selection, call, assertion; what a redex becomes -/
import Derived.Test.YtlpkdlopdccmmaaGreatDoorYS25
import Derived.Test.YtlpkdlopdccmmaaGreatDoorYS36
namespace Go.Abs
set_option linter.unusedSimpArgs false
set_option linter.unusedVariables false
open Go Go.Proofs
set_option maxRecDepth 100000
set_option maxHeartbeats 1000000
theorem fieldsT_len {p:Prog} (h:p.Sm)(x:Ty):(fieldsT p x).length≤sm:=by
 unfold fieldsT
 split
 ·rename_i hi
  obtain⟨d,hd,_⟩:=inst_decl (by decide) hi
  rw [hd,Option.getD_some]
  unfold fieldsD
  rw [List.length_map]
  exact (h.decls.2 d (declT_mem hd)).fields.1
 ·simp
end Go.Abs

/- The laws of layer 14 as functions: awake, and each law returns true -/
import Derived.Test.YtlpkdlopdccmmaaGreatDoorYF21
import Derived.Test.YtlpkdlopdccmmaaGreatDoorYL14
namespace Go.Abs
set_option linter.unusedSimpArgs false
set_option linter.unusedVariables false
open Go Go.Proofs
set_option maxRecDepth 100000
set_option maxHeartbeats 1000000
theorem recDec (p:Prog)(hp:p.decls.length≤100000)(nm:Str):decide (nm∈reachN p nm)=decide (nm∈reachS p nm):=by
 rw [decide_eq_decide,mem_reachN,(reachS_spec p hp nm).2]
end Go.Abs

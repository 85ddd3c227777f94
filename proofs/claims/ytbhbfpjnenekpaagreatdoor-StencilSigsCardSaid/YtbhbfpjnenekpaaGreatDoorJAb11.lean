/- (empty) -/
import Derived.Test.YtbhbfpjnenekpaaGreatDoorJAb7
import Derived.Scope
/- Function values with first arguments, as data: kept in a map, called. Own framework. -/
set_option linter.unusedVariables false
set_option linter.unusedSimpArgs false
namespace Go.Abs
set_option linter.unusedSimpArgs false
set_option linter.unusedVariables false
open Go
variable {P:Program} {sl:SL} {bx:Boxes} {o:Oper} {ρ:Rho}
end Go.Abs
/- scopes through which no jump goes, labels -/
namespace Go.Abs
set_option linter.unusedSimpArgs false
set_option linter.unusedVariables false
open Go
section
variable {P:Program} {n:Nat} {Q:Exit→SL→Boxes→Prop} {sl:SL} {bx:Boxes}
end
end Go.Abs

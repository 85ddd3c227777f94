/- step: selection, call, assertion; what a redex becomes -/
import Derived.Test.YtgjfipagmicdnaaGreatDoorMS25
import Derived.Test.YtgjfipagmicdnaaGreatDoorMS36
namespace Go.Abs
set_option linter.unusedSimpArgs false
set_option linter.unusedVariables false
open Go Go.Proofs
set_option maxRecDepth 100000
set_option maxHeartbeats 1000000
end Go.Abs

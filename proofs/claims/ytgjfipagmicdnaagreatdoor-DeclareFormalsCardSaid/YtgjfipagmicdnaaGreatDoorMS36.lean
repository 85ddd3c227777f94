/- table.Fields, castingsref11.Fields; table.Method; step.first -/
import Derived.Test.YtgjfipagmicdnaaGreatDoorMS18
import Derived.Test.YtgjfipagmicdnaaGreatDoorMS34
namespace Go.Abs
set_option linter.unusedSimpArgs false
set_option linter.unusedVariables false
open Go Go.Proofs
set_option maxRecDepth 100000
set_option maxHeartbeats 1000000
def ex0:Ex:=.mk 0 [] (.mk [] [] 0) [] [] 0
end Go.Abs

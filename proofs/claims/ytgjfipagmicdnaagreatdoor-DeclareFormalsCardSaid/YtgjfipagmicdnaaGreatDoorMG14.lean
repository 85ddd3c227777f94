/- The laws of layer 14 as functions: awake, and each law returns true -/
import Derived.Test.YtgjfipagmicdnaaGreatDoorMF21
import Derived.Test.YtgjfipagmicdnaaGreatDoorML14
namespace Go.Abs
set_option linter.unusedSimpArgs false
set_option linter.unusedVariables false
open Go Go.Proofs
set_option maxRecDepth 100000
set_option maxHeartbeats 1000000
end Go.Abs

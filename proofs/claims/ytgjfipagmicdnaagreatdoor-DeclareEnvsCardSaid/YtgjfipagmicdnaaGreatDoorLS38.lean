/- step: a call of a method -/
import Derived.Test.YtgjfipagmicdnaaGreatDoorLS37
import Derived.Test.YtgjfipagmicdnaaGreatDoorLAb14
namespace Go.Abs
set_option linter.unusedSimpArgs false
set_option linter.unusedVariables false
open Go Go.Proofs
set_option maxRecDepth 100000
set_option maxHeartbeats 1000000
end Go.Abs

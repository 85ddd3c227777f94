/- castingsref16.Type -/
import Derived.Test.YtdohpbjgaaneeaaGreatDoorQS56
namespace Go.Abs
set_option linter.unusedSimpArgs false
set_option linter.unusedVariables false
open Go Go.Proofs
set_option maxRecDepth 100000
set_option maxHeartbeats 4000000
end Go.Abs

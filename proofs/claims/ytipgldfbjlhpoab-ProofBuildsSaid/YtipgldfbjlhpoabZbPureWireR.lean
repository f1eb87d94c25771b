/- The plain side of layer 1's reading: both readers tell the same. -/
import Derived.Test.YtipgldfbjlhpoabZbPureWire
import Derived.Test.YtipgldfbjlhpoabZbPRWireR
namespace Go.Proofs.Ytipgldfbjlhpoab.Pure
set_option linter.unusedVariables false
set_option linter.unusedSimpArgs false
open Go.RowKit Go.Proofs.Ytipgldfbjlhpoab.P Go.Proofs.Ytipgldfbjlhpoab.Wire Go.Proofs.YtipgldfbjlhpoabW.PrintWords Go.Proofs.YtipgldfbjlhpoabW.PrintLast
end Go.Proofs.Ytipgldfbjlhpoab.Pure

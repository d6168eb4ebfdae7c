/- Bounds of numbers of a type that are fused: the result. No condition. -/
import Derived.Test.YtciigfeecmnghaaRRRRGreatRRBgFix
namespace Go.Proofs.YtciigfeecmnghaaRRRRGreatRR.Sv
open Go Go.RowKit
set_option linter.unusedVariables false
set_option linter.unusedSimpArgs false
set_option maxRecDepth 100000

end Go.Proofs.YtciigfeecmnghaaRRRRGreatRR.Sv

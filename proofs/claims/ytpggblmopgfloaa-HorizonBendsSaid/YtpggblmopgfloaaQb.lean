/- Sines and cosines: the reference's rule. No condition. -/
import Derived.Test.YtpggblmopgfloaaQa
namespace Go.Proofs.Ytpggblmopgfloaa.Sv
open Go Go.RowKit
set_option linter.unusedVariables false
set_option linter.unusedSimpArgs false
set_option maxRecDepth 100000
theorem two60 : Pure Try.prog 75 [.n .i64 60] (zV 1152921504606846976) := Two_ok 60 (by decide)
theorem two30 : Pure Try.prog 75 [.n .i64 30] (zV 1073741824) := Two_ok 30 (by decide)
theorem two29 : Pure Try.prog 75 [.n .i64 29] (zV 536870912) := Two_ok 29 (by decide)
theorem two32 : Pure Try.prog 75 [.n .i64 32] (zV 4294967296) := Two_ok 32 (by decide)
end Go.Proofs.Ytpggblmopgfloaa.Sv

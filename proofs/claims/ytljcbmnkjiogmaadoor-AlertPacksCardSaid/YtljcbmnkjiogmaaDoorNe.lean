/- The statements on numbers of 64 and 128 bits, but for roots and for quotients of products. No condition. -/
import Derived.Test.YtljcbmnkjiogmaaDoorNd
namespace Go.Proofs.YtljcbmnkjiogmaaDoor.Sv
open Go Go.RowKit
set_option linter.unusedVariables false
set_option linter.unusedSimpArgs false
set_option maxRecDepth 100000
theorem fits_in {x : Int} (h : IntKind.i64.min ≤ x ∧ x ≤ IntKind.i64.max) : fits x := h
theorem u64_in {x : Int} (h : IntKind.u64.min ≤ x ∧ x ≤ IntKind.u64.max) : 0 ≤ x ∧ x ≤ 18446744073709551615 := h
theorem fits.zb {x : Int} (h : fits x) : zb 4 x := zb_64 (by unfold fits at h; omega)
theorem wide_arg {hi lo : Int} (h : fits hi) (h' : 0 ≤ lo ∧ lo ≤ 18446744073709551615) : fits2 (hi * 18446744073709551616 + lo) ∧ V.agg [.n .i64 hi, .n .u64 lo] = wideV (hi * 18446744073709551616 + lo) := by
  unfold fits at h
  refine ⟨by unfold fits2; omega, wide_end (by omega) (by omega)⟩
theorem fits2.zb {w : Int} (h : fits2 w) : zb 8 w := by
  unfold Sv.zb
  unfold fits2 at h
  have : (1000000 : Int) ^ 8 = 1000000000000000000000000000000000000000000000000 := by decide
  omega
end Go.Proofs.YtljcbmnkjiogmaaDoor.Sv

/- Bounds of numbers of a type that are fused. No condition. -/
import Derived.Test.YtpggblmopgfloaaBp
import Derived.Test.YtpggblmopgfloaaBcFix
import Derived.Test.YtpggblmopgfloaaWc
namespace Go.Proofs.Ytpggblmopgfloaa.Sv
open Go Go.RowKit
set_option linter.unusedVariables false
set_option linter.unusedSimpArgs false
set_option maxRecDepth 100000
/-- spyglass/bound.Has(spyglass/api.Fix) -/
def F26 : Fn1 := ⟨20, .seq (.reg [⟨some 2, none, .box, [.tm 0]⟩, ⟨some 4, none, .mv, [.cn (.b false)]⟩] [1, 2]) (.seq (.reg [⟨some 5, none, .ld true 3 false, [.tm 2]⟩, ⟨some 6, none, .ld true 3 false, [.tm 2]⟩, ⟨some 7, none, .call 87, [.tm 5, .tm 6]⟩, ⟨some 8, none, .mv, [.tm 7]⟩, ⟨some 9, some (8, false), .fa 0, [.tm 2]⟩, ⟨some 10, some (8, false), .ld false 1 false, [.tm 9]⟩, ⟨some 11, some (8, false), .mv, [.tm 1]⟩, ⟨some 12, some (8, false), .po (.bin .leq), [.tm 10, .tm 11]⟩, ⟨some 13, some (8, false), .mv, [.tm 12]⟩, ⟨some 14, some (13, true), .mv, [.tm 1]⟩, ⟨some 15, some (13, true), .fa 1, [.tm 2]⟩, ⟨some 16, some (13, true), .ld false 1 false, [.tm 15]⟩, ⟨some 17, some (13, true), .po (.bin .leq), [.tm 14, .tm 16]⟩, ⟨some 18, some (8, false), .pick, [.tm 13, .tm 17, .cn (.b false)]⟩, ⟨some 19, none, .pick, [.tm 8, .cn (.b true), .tm 18]⟩, ⟨some 4, none, .mv, [.tm 19]⟩] [4]) .ret), [.tm 4]⟩
theorem of26 : Fn1.of Try.prog 26 ⟨false, [], false⟩ [[1, 2], [4]] = some F26 := by kernel_rfl
/-- live: [1, 5, 8, 9, 10] -/
def L139_0 : SC := .seq (.reg [⟨some 11, none, .po (.bin .lss), [.tm 10, .tm 9]⟩] [1, 5, 8, 9, 10, 11]) (.seq (.cond (.tm 11) .skip (.exit 0)) (.seq (.block 1 (.seq (.reg [⟨some 12, none, .ia none 3, [.tm 8, .tm 10]⟩, ⟨some 13, none, .ld true 3 true, [.tm 12]⟩, ⟨some 7, none, .alloc [.n .i64 0, .n .i64 0, .b false], []⟩, ⟨none, none, .st 3, [.tm 7, .tm 13]⟩] [1, 5, 7, 8, 9, 10]) (.seq (.reg [⟨some 14, none, .ld true 3 false, [.tm 7]⟩, ⟨some 15, none, .ld true 3 false, [.tm 7]⟩, ⟨some 16, none, .call 87, [.tm 14, .tm 15]⟩, ⟨some 17, none, .po (.un .not), [.tm 16]⟩, ⟨some 18, none, .mv, [.tm 17]⟩, ⟨some 19, some (18, true), .ld true 3 false, [.tm 7]⟩, ⟨some 20, some (18, true), .mv, [.tm 1]⟩, ⟨some 21, some (18, true), .call 26, [.tm 19, .tm 20]⟩, ⟨some 22, none, .pick, [.tm 18, .tm 21, .cn (.b false)]⟩] [1, 5, 8, 9, 10, 22]) (.cond (.tm 22) (.reg [⟨some 23, none, .mv, [.tm 5]⟩, ⟨some 24, none, .po (.bin .add), [.tm 23, .cn (.n .i64 1)]⟩, ⟨some 5, none, .mv, [.tm 24]⟩] [1, 5, 8, 9, 10]) .skip)))) (.reg [⟨some 25, none, .po (.bin .add), [.tm 10, .cn (.n .i64 1)]⟩, ⟨some 10, none, .mv, [.tm 25]⟩] [1, 5, 8, 9, 10])))
/-- spyglass/bound.Votes(spyglass/api.Fix) -/
def F139 : Fn1 := ⟨27, .seq (.reg [⟨some 4, none, .mv, [.cn (.n .i64 0)]⟩] [0, 1]) (.seq (.reg [⟨some 5, none, .mv, [.cn (.n .i64 0)]⟩] [0, 1, 5]) (.seq (.seq (.reg [⟨some 8, none, .mv, [.tm 0]⟩, ⟨some 9, none, .len false, [.tm 8]⟩, ⟨some 10, none, .mv, [.cn (.n .i64 0)]⟩] [1, 5, 8, 9, 10]) (.block 0 (.loop [1, 5, 8, 9, 10] L139_0))) (.seq (.reg [⟨some 26, none, .mv, [.tm 5]⟩, ⟨some 4, none, .mv, [.tm 26]⟩] [4]) .ret))), [.tm 4]⟩
theorem of139 : Fn1.of Try.prog 139 ⟨false, [], false⟩ [[0, 1], [0, 1, 5], [1, 5, 8, 9, 10], [1, 5, 8, 9, 10], [1, 5, 8, 9, 10, 11], [1, 5, 7, 8, 9, 10], [1, 5, 8, 9, 10, 22], [1, 5, 8, 9, 10], [1, 5, 8, 9, 10], [4]] = some F139 := by kernel_rfl
/-- spyglass/bound.Fuse(spyglass/api.Fix)$1 -/
def F138 : Fn1 := ⟨10, .seq (.reg [⟨some 4, none, .mv, [.cn (.b false)]⟩] [0, 1, 2]) (.seq (.dreg [⟨some 5, none, .ld false 1 false, [.tm 1]⟩, ⟨some 6, none, .mv, [.tm 0]⟩, ⟨some 7, none, .call 139, [.tm 5, .tm 6]⟩, ⟨some 8, none, .ld false 1 false, [.tm 2]⟩, ⟨some 9, none, .po (.bin .lss), [.tm 7, .tm 8]⟩, ⟨some 4, none, .mv, [.tm 9]⟩] [] [4]) .ret), [.tm 4]⟩
theorem of138 : Fn1.of Try.prog 138 ⟨false, [], false⟩ [[0, 1, 2], [4]] = some F138 := by kernel_rfl
/-- live: [0, 1, 7, 8] -/
def L172_0 : SC := .seq (.reg [⟨some 9, none, .po (.bin .lss), [.tm 8, .tm 7]⟩] [0, 1, 7, 8, 9]) (.seq (.cond (.tm 9) .skip (.exit 0)) (.seq (.block 1 (.seq (.reg [⟨some 10, none, .mv, [.tm 8]⟩, ⟨some 5, none, .mv, [.tm 10]⟩] [0, 1, 5, 7, 8]) (.seq (.reg [⟨some 11, none, .mv, [.tm 1]⟩, ⟨some 12, none, .mv, [.tm 0]⟩, ⟨some 13, none, .mv, [.tm 5]⟩, ⟨some 14, none, .ia none 1, [.tm 12, .tm 13]⟩, ⟨some 15, none, .ld false 1 true, [.tm 14]⟩, ⟨some 16, none, .callD, [.tm 11, .tm 15]⟩] [0, 1, 5, 7, 8, 16]) (.cond (.tm 16) (.seq (.reg [⟨some 17, none, .mv, [.tm 5]⟩, ⟨some 4, none, .mv, [.tm 17]⟩] [4]) .ret) .skip)))) (.reg [⟨some 18, none, .po (.bin .add), [.tm 8, .cn (.n .i64 1)]⟩, ⟨some 8, none, .mv, [.tm 18]⟩] [0, 1, 7, 8])))
/-- slices.IndexFunc(()spyglass/api.Fix,spyglass/api.Fix) -/
def F172 : Fn1 := ⟨19, .seq (.reg [⟨some 4, none, .mv, [.cn (.n .i64 0)]⟩] [0, 1]) (.seq (.seq (.reg [⟨some 6, none, .mv, [.tm 0]⟩, ⟨some 7, none, .len false, [.tm 6]⟩, ⟨some 8, none, .mv, [.cn (.n .i64 0)]⟩] [0, 1, 7, 8]) (.block 0 (.loop [0, 1, 7, 8] L172_0))) (.seq (.reg [⟨some 4, none, .mv, [.cn (.n .i64 (-1))]⟩] [4]) .ret)), [.tm 4]⟩
theorem of172 : Fn1.of Try.prog 172 ⟨false, [], false⟩ [[0, 1], [0, 1, 7, 8], [0, 1, 7, 8], [0, 1, 7, 8, 9], [0, 1, 5, 7, 8], [0, 1, 5, 7, 8, 16], [4], [0, 1, 7, 8], [4]] = some F172 := by kernel_rfl
/-- live: [0, 1, 5, 6] -/
def L140_0 : SC := .seq (.seq (.reg [⟨some 16, none, .mv, [.tm 6]⟩, ⟨some 17, none, .mv, [.tm 0]⟩, ⟨some 18, none, .len false, [.tm 17]⟩, ⟨some 19, none, .po (.bin .lss), [.tm 16, .tm 18]⟩] [0, 1, 5, 6, 19]) (.cond (.tm 19) .skip (.exit 0))) (.seq (.block 1 (.seq (.reg [⟨some 22, none, .mv, [.tm 0]⟩, ⟨some 23, none, .mv, [.tm 6]⟩, ⟨some 24, none, .ia none 1, [.tm 22, .tm 23]⟩, ⟨some 25, none, .ld false 1 true, [.tm 24]⟩, ⟨some 7, none, .mv, [.tm 25]⟩] [0, 1, 5, 6, 7]) (.seq (.reg [⟨some 26, none, .mv, [.tm 1]⟩, ⟨some 27, none, .mv, [.tm 7]⟩, ⟨some 28, none, .callD, [.tm 26, .tm 27]⟩, ⟨some 29, none, .po (.un .not), [.tm 28]⟩] [0, 1, 5, 6, 7, 29]) (.cond (.tm 29) (.seq (.reg [⟨some 30, none, .mv, [.tm 0]⟩, ⟨some 31, none, .mv, [.tm 5]⟩, ⟨some 32, none, .mv, [.tm 7]⟩, ⟨some 33, none, .ia none 1, [.tm 30, .tm 31]⟩, ⟨none, none, .st 1, [.tm 33, .tm 32]⟩] [0, 1, 5, 6]) (.reg [⟨some 34, none, .mv, [.tm 5]⟩, ⟨some 35, none, .po (.bin .add), [.tm 34, .cn (.n .i64 1)]⟩, ⟨some 5, none, .mv, [.tm 35]⟩] [0, 1, 5, 6])) .skip)))) (.reg [⟨some 20, none, .mv, [.tm 6]⟩, ⟨some 21, none, .po (.bin .add), [.tm 20, .cn (.n .i64 1)]⟩, ⟨some 6, none, .mv, [.tm 21]⟩] [0, 1, 5, 6]))
/-- slices.DeleteFunc(()spyglass/api.Fix,spyglass/api.Fix) -/
def F140 : Fn1 := ⟨42, .seq (.reg [⟨some 4, none, .mv, [.cn (.sl 0 [] true)]⟩] [0, 1]) (.seq (.reg [⟨some 8, none, .mv, [.tm 0]⟩, ⟨some 9, none, .mv, [.tm 1]⟩, ⟨some 10, none, .call 172, [.tm 8, .tm 9]⟩, ⟨some 5, none, .mv, [.tm 10]⟩] [0, 1, 5]) (.seq (.seq (.reg [⟨some 11, none, .mv, [.tm 5]⟩, ⟨some 12, none, .po (.bin .eql), [.tm 11, .cn (.n .i64 (-1))]⟩] [0, 1, 5, 12]) (.cond (.tm 12) (.seq (.reg [⟨some 13, none, .mv, [.tm 0]⟩, ⟨some 4, none, .mv, [.tm 13]⟩] [0, 4]) .ret) .skip)) (.seq (.seq (.reg [⟨some 14, none, .mv, [.tm 5]⟩, ⟨some 15, none, .po (.bin .add), [.tm 14, .cn (.n .i64 1)]⟩, ⟨some 6, none, .mv, [.tm 15]⟩] [0, 1, 5, 6]) (.block 0 (.loop [0, 1, 5, 6] L140_0))) (.seq (.reg [⟨some 36, none, .mv, [.tm 0]⟩, ⟨some 37, none, .mv, [.tm 5]⟩, ⟨some 38, none, .sl false 1 true false false, [.tm 36, .tm 37]⟩, ⟨none, none, .clr 1 [.n .i64 0], [.tm 38]⟩] [0, 5]) (.seq (.reg [⟨some 39, none, .mv, [.tm 0]⟩, ⟨some 40, none, .mv, [.tm 5]⟩, ⟨some 41, none, .sl false 1 false true false, [.tm 39, .tm 40]⟩, ⟨some 4, none, .mv, [.tm 41]⟩] [0, 4]) .ret))))), [.tm 4]⟩
theorem of140 : Fn1.of Try.prog 140 ⟨false, [], false⟩ [[0, 1], [0, 1, 5], [0, 1, 5, 12], [0, 4], [0, 1, 5, 6], [0, 1, 5, 6], [0, 1, 5, 6, 19], [0, 1, 5, 6, 7], [0, 1, 5, 6, 7, 29], [0, 1, 5, 6], [0, 1, 5, 6], [0, 1, 5, 6], [0, 5], [0, 4]] = some F140 := by kernel_rfl
/-- live: [0, 3, 4] -/
def L141_0 : SC := .seq (.seq (.reg [⟨some 12, none, .mv, [.tm 4]⟩, ⟨some 13, none, .mv, [.tm 0]⟩, ⟨some 14, none, .len false, [.tm 13]⟩, ⟨some 15, none, .po (.bin .lss), [.tm 12, .tm 14]⟩] [0, 3, 4, 15]) (.cond (.tm 15) .skip (.exit 0))) (.seq (.block 1 (.reg [⟨some 18, none, .mv, [.tm 3]⟩, ⟨some 19, none, .mv, [.tm 0]⟩, ⟨some 20, none, .mv, [.tm 4]⟩, ⟨some 21, none, .ia none 1, [.tm 19, .tm 20]⟩, ⟨some 22, none, .ld false 1 true, [.tm 21]⟩, ⟨some 23, none, .po .mn, [.tm 18, .tm 22]⟩, ⟨some 3, none, .mv, [.tm 23]⟩] [0, 3, 4])) (.reg [⟨some 16, none, .mv, [.tm 4]⟩, ⟨some 17, none, .po (.bin .add), [.tm 16, .cn (.n .i64 1)]⟩, ⟨some 4, none, .mv, [.tm 17]⟩] [0, 3, 4]))
/-- slices.Min(()spyglass/api.Fix,spyglass/api.Fix) -/
def F141 : Fn1 := ⟨25, .seq (.reg [⟨some 2, none, .mv, [.cn (.n .i64 0)]⟩] [0]) (.seq (.seq (.reg [⟨some 5, none, .mv, [.tm 0]⟩, ⟨some 6, none, .len false, [.tm 5]⟩, ⟨some 7, none, .po (.bin .lss), [.tm 6, .cn (.n .i64 1)]⟩] [0, 7]) (.cond (.tm 7) (.reg [⟨some 8, none, .po (.mkI 9), [.cn (.s (⟨⟨[115, 108, 105, 99, 101, 115, 46, 77, 105, 110, 58, 32, 101, 109, 112, 116, 121, 32, 108, 105, 115, 116]⟩⟩ : ByteArray))]⟩, ⟨none, none, .bad, []⟩] [0]) .skip)) (.seq (.reg [⟨some 9, none, .mv, [.tm 0]⟩, ⟨some 10, none, .ia none 1, [.tm 9, .cn (.n .i64 0)]⟩, ⟨some 11, none, .ld false 1 true, [.tm 10]⟩, ⟨some 3, none, .mv, [.tm 11]⟩] [0, 3]) (.seq (.seq (.reg [⟨some 4, none, .mv, [.cn (.n .i64 1)]⟩] [0, 3, 4]) (.block 0 (.loop [0, 3, 4] L141_0))) (.seq (.reg [⟨some 24, none, .mv, [.tm 3]⟩, ⟨some 2, none, .mv, [.tm 24]⟩] [2]) .ret)))), [.tm 2]⟩
theorem of141 : Fn1.of Try.prog 141 ⟨false, [], false⟩ [[0], [0, 7], [0], [0, 3], [0, 3, 4], [0, 3, 4], [0, 3, 4, 15], [0, 3, 4], [0, 3, 4], [2]] = some F141 := by kernel_rfl
/-- live: [0, 3, 4] -/
def L142_0 : SC := .seq (.seq (.reg [⟨some 12, none, .mv, [.tm 4]⟩, ⟨some 13, none, .mv, [.tm 0]⟩, ⟨some 14, none, .len false, [.tm 13]⟩, ⟨some 15, none, .po (.bin .lss), [.tm 12, .tm 14]⟩] [0, 3, 4, 15]) (.cond (.tm 15) .skip (.exit 0))) (.seq (.block 1 (.reg [⟨some 18, none, .mv, [.tm 3]⟩, ⟨some 19, none, .mv, [.tm 0]⟩, ⟨some 20, none, .mv, [.tm 4]⟩, ⟨some 21, none, .ia none 1, [.tm 19, .tm 20]⟩, ⟨some 22, none, .ld false 1 true, [.tm 21]⟩, ⟨some 23, none, .po .mx, [.tm 18, .tm 22]⟩, ⟨some 3, none, .mv, [.tm 23]⟩] [0, 3, 4])) (.reg [⟨some 16, none, .mv, [.tm 4]⟩, ⟨some 17, none, .po (.bin .add), [.tm 16, .cn (.n .i64 1)]⟩, ⟨some 4, none, .mv, [.tm 17]⟩] [0, 3, 4]))
/-- slices.Max(()spyglass/api.Fix,spyglass/api.Fix) -/
def F142 : Fn1 := ⟨25, .seq (.reg [⟨some 2, none, .mv, [.cn (.n .i64 0)]⟩] [0]) (.seq (.seq (.reg [⟨some 5, none, .mv, [.tm 0]⟩, ⟨some 6, none, .len false, [.tm 5]⟩, ⟨some 7, none, .po (.bin .lss), [.tm 6, .cn (.n .i64 1)]⟩] [0, 7]) (.cond (.tm 7) (.reg [⟨some 8, none, .po (.mkI 9), [.cn (.s (⟨⟨[115, 108, 105, 99, 101, 115, 46, 77, 97, 120, 58, 32, 101, 109, 112, 116, 121, 32, 108, 105, 115, 116]⟩⟩ : ByteArray))]⟩, ⟨none, none, .bad, []⟩] [0]) .skip)) (.seq (.reg [⟨some 9, none, .mv, [.tm 0]⟩, ⟨some 10, none, .ia none 1, [.tm 9, .cn (.n .i64 0)]⟩, ⟨some 11, none, .ld false 1 true, [.tm 10]⟩, ⟨some 3, none, .mv, [.tm 11]⟩] [0, 3]) (.seq (.seq (.reg [⟨some 4, none, .mv, [.cn (.n .i64 1)]⟩] [0, 3, 4]) (.block 0 (.loop [0, 3, 4] L142_0))) (.seq (.reg [⟨some 24, none, .mv, [.tm 3]⟩, ⟨some 2, none, .mv, [.tm 24]⟩] [2]) .ret)))), [.tm 2]⟩
theorem of142 : Fn1.of Try.prog 142 ⟨false, [], false⟩ [[0], [0, 7], [0], [0, 3], [0, 3, 4], [0, 3, 4], [0, 3, 4, 15], [0, 3, 4], [0, 3, 4], [2]] = some F142 := by kernel_rfl
/-- live: [1, 2, 4, 5, 10, 11, 12] -/
def L90_0 : SC := .seq (.reg [⟨some 13, none, .po (.bin .lss), [.tm 12, .tm 11]⟩] [1, 2, 4, 5, 10, 11, 12, 13]) (.seq (.cond (.tm 13) .skip (.exit 0)) (.seq (.block 1 (.seq (.reg [⟨some 14, none, .ia none 3, [.tm 10, .tm 12]⟩, ⟨some 15, none, .ld true 3 true, [.tm 14]⟩, ⟨some 7, none, .alloc [.n .i64 0, .n .i64 0, .b false], []⟩, ⟨none, none, .st 3, [.tm 7, .tm 15]⟩] [1, 2, 4, 5, 7, 10, 11, 12]) (.seq (.reg [⟨some 16, none, .ld true 3 false, [.tm 7]⟩, ⟨some 17, none, .ld true 3 false, [.tm 7]⟩, ⟨some 18, none, .call 87, [.tm 16, .tm 17]⟩, ⟨some 19, none, .po (.un .not), [.tm 18]⟩] [1, 2, 4, 5, 7, 10, 11, 12, 19]) (.cond (.tm 19) (.reg [⟨some 20, none, .mv, [.tm 5]⟩, ⟨some 21, none, .fa 0, [.tm 7]⟩, ⟨some 22, none, .ld false 1 false, [.tm 21]⟩, ⟨some 23, none, .fa 1, [.tm 7]⟩, ⟨some 24, none, .ld false 1 false, [.tm 23]⟩, ⟨some 25, none, .po (.bsl 2 [.n .i64 0] [(0, 1), (1, 1)]), [.tm 22, .tm 24]⟩, ⟨some 26, none, .app 1 8, [.tm 20, .tm 25]⟩, ⟨some 5, none, .mv, [.tm 26]⟩] [1, 2, 4, 5, 10, 11, 12]) .skip)))) (.reg [⟨some 27, none, .po (.bin .add), [.tm 12, .cn (.n .i64 1)]⟩, ⟨some 12, none, .mv, [.tm 27]⟩] [1, 2, 4, 5, 10, 11, 12])))
/-- spyglass/bound.Fuse(spyglass/api.Fix) -/
def F90 : Fn1 := ⟨53, .seq (.reg [⟨some 2, none, .box, [.tm 0]⟩, ⟨some 4, none, .alloc [.n .i64 0, .n .i64 0, .b false], []⟩] [1, 2, 4]) (.seq (.reg [⟨some 5, none, .adopt 1, []⟩] [1, 2, 4, 5]) (.seq (.seq (.reg [⟨some 10, none, .ld false 1 false, [.tm 2]⟩, ⟨some 11, none, .len false, [.tm 10]⟩, ⟨some 12, none, .mv, [.cn (.n .i64 0)]⟩] [1, 2, 4, 5, 10, 11, 12]) (.block 0 (.loop [1, 2, 4, 5, 10, 11, 12] L90_0))) (.seq (.reg [⟨some 28, none, .mv, [.tm 5]⟩, ⟨some 29, none, .len false, [.tm 28]⟩, ⟨some 30, none, .po (.bin .quo), [.tm 29, .cn (.n .i64 2)]⟩, ⟨some 31, none, .mv, [.tm 1]⟩, ⟨some 32, none, .po (.bin .sub), [.tm 30, .tm 31]⟩, ⟨some 8, none, .alloc [.n .i64 0], []⟩, ⟨none, none, .st 1, [.tm 8, .tm 32]⟩] [1, 2, 4, 5, 8]) (.seq (.seq (.reg [⟨some 33, none, .mv, [.tm 1]⟩, ⟨some 34, none, .po (.bin .lss), [.tm 33, .cn (.n .i64 0)]⟩, ⟨some 35, none, .mv, [.tm 34]⟩, ⟨some 36, some (35, false), .ld false 1 false, [.tm 8]⟩, ⟨some 37, some (35, false), .po (.bin .leq), [.tm 36, .cn (.n .i64 0)]⟩, ⟨some 38, none, .pick, [.tm 35, .cn (.b true), .tm 37]⟩] [2, 4, 5, 8, 38]) (.cond (.tm 38) (.seq (.reg [⟨some 39, none, .call 20, []⟩, ⟨none, none, .st 3, [.tm 4, .tm 39]⟩] [4]) .ret) .skip)) (.seq (.reg [⟨some 40, none, .po (.mkF (.func 138) 0), [.tm 2, .tm 8]⟩, ⟨some 9, none, .mv, [.tm 40]⟩] [4, 5, 9]) (.seq (.seq (.reg [⟨some 41, none, .mv, [.tm 5]⟩, ⟨some 42, none, .mv, [.tm 9]⟩, ⟨some 43, none, .callM 140, [.tm 41, .tm 42]⟩, ⟨some 5, none, .mv, [.tm 43]⟩] [4, 5]) (.seq (.reg [⟨some 44, none, .mv, [.tm 5]⟩, ⟨some 45, none, .len false, [.tm 44]⟩, ⟨some 46, none, .po (.bin .eql), [.tm 45, .cn (.n .i64 0)]⟩] [4, 5, 46]) (.cond (.tm 46) (.seq (.reg [⟨some 47, none, .call 20, []⟩, ⟨none, none, .st 3, [.tm 4, .tm 47]⟩] [4]) .ret) .skip))) (.seq (.reg [⟨some 48, none, .mv, [.tm 5]⟩, ⟨some 49, none, .call 141, [.tm 48]⟩, ⟨some 50, none, .mv, [.tm 5]⟩, ⟨some 51, none, .call 142, [.tm 50]⟩, ⟨some 52, none, .call 22, [.tm 49, .tm 51]⟩, ⟨none, none, .st 3, [.tm 4, .tm 52]⟩] [4]) .ret))))))), [.cell 4 true 3]⟩
theorem of90 : Fn1.of Try.prog 90 ⟨true, [140], false⟩ [[1, 2, 4], [1, 2, 4, 5], [1, 2, 4, 5, 10, 11, 12], [1, 2, 4, 5, 10, 11, 12], [1, 2, 4, 5, 10, 11, 12, 13], [1, 2, 4, 5, 7, 10, 11, 12], [1, 2, 4, 5, 7, 10, 11, 12, 19], [1, 2, 4, 5, 10, 11, 12], [1, 2, 4, 5, 10, 11, 12], [1, 2, 4, 5, 8], [2, 4, 5, 8, 38], [4], [4, 5, 9], [4, 5], [4, 5, 46], [4], [4]] = some F90 := by kernel_rfl
theorem hasFix (lo hi : Int) (u : Bool) (v : Int) : Pure Try.prog 26 [bdV lo hi u, .n .i64 v] (.b (bUn (normB lo hi u) || voteB (normB lo hi u) v)) := by
  refine pure_of_wp of26 (Nat.le_of_ble_eq_true rfl) ?_
  refine CallK.mk _ (vagueFix lo hi u lo hi u) rfl ?_
  rcases bd_cases lo hi u with ⟨h1, h2⟩ | ⟨h1, rfl, h3, h2⟩
  · rw [h1]
    refine DecK.tt ?_
    ((repeat' first | refine DecK.tt ?_ | refine DecK.ff ?_ | refine DecK.beq (fun _ => ?_) (fun _ => ?_) | refine DecK.bne (fun _ => ?_) (fun _ => ?_) | refine DecK.dec (fun _ => ?_) (fun _ => ?_) | refine OptK.mk _ rfl ?_ | refine endV (by rfl) ?_) <;> (try with_reducible rfl))
    rfl
  · rw [h1]
    refine DecK.ff ?_
    ((repeat' first | refine DecK.tt ?_ | refine DecK.ff ?_ | refine DecK.beq (fun _ => ?_) (fun _ => ?_) | refine DecK.bne (fun _ => ?_) (fun _ => ?_) | refine DecK.dec (fun _ => ?_) (fun _ => ?_) | refine OptK.mk _ rfl ?_ | refine endV (by rfl) ?_) <;> (try with_reducible rfl))
    all_goals simp only [bUn, voteB, Bool.false_or, V.b.injEq]
    all_goals (symm; first | (refine decide_eq_true ?_; omega) | (refine decide_eq_false ?_; omega) | (refine decide_eq_decide.2 ?_; omega))
theorem votesFix (l : List BdT) (v : Int) (hl : l.length ≤ 1000000) : Pure Try.prog 139 [rowV bdT l, .n .i64 v] (.n .i64 (votesF (l.map nrm) v)) := by
  refine pure_of_wp of139 (Nat.le_of_ble_eq_true rfl) ?_
  refine loop_ind2 (fun (n i : Int) => ⟨[(1, .v (.n .i64 v)), (5, .v (.n .i64 n)), (8, .v (rowV bdT l)), (9, .v (.n .i64 l.length)), (10, .v (.n .i64 i))], []⟩) (fun n i => l.length - i.toNat)
    (fun n i => 0 ≤ i ∧ i ≤ l.length ∧ 0 ≤ n ∧ n ≤ i ∧ n + votesF ((l.drop i.toNat).map nrm) v = votesF (l.map nrm) v) 0 0 (by simp) ?_
  intro n iz ⟨h1, h2, h3, h4, h5⟩ ih
  obtain ⟨i, rfl⟩ : ∃ i : Nat, iz = i := ⟨iz.toNat, by omega⟩
  simp only [Int.toNat_natCast] at h5
  refine DecK.dec (fun h => ?_) (fun h => ?_)
  · obtain ⟨x, hx, ex, mx, _⟩ := at_ex' (l := l) (k := i) (by omega)
    have wi : IntKind.i64.wrap ((i : Int) + 1) = ((i + 1 : Nat) : Int) := by simp (discharger := omega) only [w64, wu64, wu8, w32, wu32, tdivC, tmodC]; omega
    have wn : IntKind.i64.wrap (n + 1) = n + 1 := w64 (by omega)
    rw [ex, List.map_cons, votesF] at h5
    refine OptK.mk _ (ria i rfl (by omega)) ?_
    refine OptK.mk _ (rld bdz hx) ?_
    refine OptK.mk _ rfl ?_
    refine CallK.mk _ (vagueFix _ _ _ _ _ _) rfl ?_
    have hh := hasFix x.1 x.2.1 x.2.2.1 v
    rw [show normB x.1 x.2.1 x.2.2.1 = nrm x from rfl] at hh ⊢
    generalize nrm x = y at *
    rcases y with _ | p
    · refine DecK.no rfl ?_
      refine DecK.no rfl ?_
      simp only [voteB, Bool.false_eq_true, if_false] at h5
      refine ih _ _ ⟨?_, ?_, ?_, ?_, ?_⟩ ?_
      all_goals try simp only [wi, Int.toNat_natCast]
      all_goals omega
    · refine DecK.yes rfl ?_
      refine CallK.mk _ hh rfl ?_
      refine DecK.both (fun g => ?_) (fun g => ?_)
      · have g : voteB (some p) v = true := by simpa [bUn] using g
        rw [if_pos g] at h5
        refine ih _ _ ⟨?_, ?_, ?_, ?_, ?_⟩ ?_
        all_goals try simp only [wi, wn, Int.toNat_natCast]
        all_goals omega
      · have g : voteB (some p) v = false := by simpa [bUn] using g
        rw [if_neg (by simp [g])] at h5
        refine ih _ _ ⟨?_, ?_, ?_, ?_, ?_⟩ ?_
        all_goals try simp only [wi, Int.toNat_natCast]
        all_goals omega
  · ((repeat' first | refine DecK.tt ?_ | refine DecK.ff ?_ | refine DecK.beq (fun _ => ?_) (fun _ => ?_) | refine DecK.bne (fun _ => ?_) (fun _ => ?_) | refine DecK.dec (fun _ => ?_) (fun _ => ?_) | refine OptK.mk _ rfl ?_ | refine endV (by rfl) ?_) <;> (try with_reducible rfl))
    rw [List.drop_eq_nil_of_le (by omega)] at h5
    simp only [List.map_nil, votesF] at h5
    rw [show n = votesF (l.map nrm) v by omega]
theorem fewFix (l : List BdT) (need v : Int) (hl : l.length ≤ 1000000) : Pure Try.prog 138 [.n .i64 v, .ip [rowV bdT l], .ip [.n .i64 need]] (.b (decide (votesF (l.map nrm) v < need))) := by
  refine pure_of_wp of138 (Nat.le_of_ble_eq_true rfl) ?_
  refine OptK.mk _ rfl ?_
  refine CallK.mk _ (votesFix l v hl) rfl ?_
  refine OptK.mk _ rfl ?_
  ((repeat' first | refine DecK.tt ?_ | refine DecK.ff ?_ | refine DecK.beq (fun _ => ?_) (fun _ => ?_) | refine DecK.bne (fun _ => ?_) (fun _ => ?_) | refine DecK.dec (fun _ => ?_) (fun _ => ?_) | refine OptK.mk _ rfl ?_ | refine endV (by rfl) ?_) <;> (try with_reducible rfl))
theorem idxFix (l : List Int) (t : Bool) (g : Nat) (cap : List V) (p : Int → Bool) (hl : l.length ≤ 4000000) (hp : ∀ x ∈ l, Pure Try.prog g ([] ++ [.n .i64 x] ++ cap) (.b (p x))) :
    Pure Try.prog 172 [.sl l.length (l.flatMap ni) t, .clo (.func g) [] cap] (.n .i64 (idxF p l 0)) := by
  refine pure_of_wp of172 (Nat.le_of_ble_eq_true rfl) ?_
  refine loop_ind (fun (i : Int) => ⟨[(0, .v (.sl l.length (l.flatMap ni) t)), (1, .v (.clo (.func g) [] cap)), (7, .v (.n .i64 l.length)), (8, .v (.n .i64 i))], []⟩) (fun i => l.length - i.toNat)
    (fun i => 0 ≤ i ∧ i ≤ l.length ∧ idxF p (l.drop i.toNat) i = idxF p l 0) 0 (by simp) ?_
  intro iz ⟨h1, h2, h3⟩ ih
  obtain ⟨i, rfl⟩ : ∃ i : Nat, iz = i := ⟨iz.toNat, by omega⟩
  simp only [Int.toNat_natCast] at h3
  refine DecK.dec (fun h => ?_) (fun h => ?_)
  · obtain ⟨x, hx, ex, mx, _⟩ := at_ex' (l := l) (k := i) (by omega)
    have wi : IntKind.i64.wrap ((i : Int) + 1) = ((i + 1 : Nat) : Int) := by simp (discharger := omega) only [w64, wu64, wu8, w32, wu32, tdivC, tmodC]; omega
    rw [ex, idxF] at h3
    refine OptK.mk _ (ria i rfl (by omega)) ?_
    refine OptK.mk _ (rld1 (g := fun x => .n .i64 x) hx) ?_
    refine CallK.mk _ (hp x mx) rfl ?_
    refine DecK.both (fun e => ?_) (fun e => ?_)
    · rw [if_pos e] at h3
      ((repeat' first | refine DecK.tt ?_ | refine DecK.ff ?_ | refine DecK.beq (fun _ => ?_) (fun _ => ?_) | refine DecK.bne (fun _ => ?_) (fun _ => ?_) | refine DecK.dec (fun _ => ?_) (fun _ => ?_) | refine OptK.mk _ rfl ?_ | refine endV (by rfl) ?_) <;> (try with_reducible rfl))
      rw [h3]
    · rw [if_neg (by simp [e])] at h3
      refine ih _ ⟨?_, ?_, ?_⟩ ?_
      all_goals try simp only [wi, Int.toNat_natCast]
      · omega
      · omega
      · exact h3
      · omega
  · ((repeat' first | refine DecK.tt ?_ | refine DecK.ff ?_ | refine DecK.beq (fun _ => ?_) (fun _ => ?_) | refine DecK.bne (fun _ => ?_) (fun _ => ?_) | refine DecK.dec (fun _ => ?_) (fun _ => ?_) | refine OptK.mk _ rfl ?_ | refine endV (by rfl) ?_) <;> (try with_reducible rfl))
    rw [List.drop_eq_nil_of_le (by omega), idxF] at h3
    rw [← h3]
theorem minSFix (x : Int) (l : List Int) (t : Bool) (hl : l.length ≤ 4000000) : Pure Try.prog 141 [.sl (x :: l).length ((x :: l).flatMap ni) t] (.n .i64 (l.foldl min x)) := by
  refine pure_of_wp of141 (Nat.le_of_ble_eq_true rfl) ?_
  refine DecK.no (decide_eq_false (by simp; omega)) ?_
  refine OptK.mk _ (ria 0 rfl (by simp)) ?_
  refine OptK.mk _ (rld1 (g := fun x => .n .i64 x) (l := x :: l) (m := 0) rfl) ?_
  refine loop_ind2 (fun (m i : Int) => ⟨[(0, .v (.sl (x :: l).length ((x :: l).flatMap ni) t)), (3, .v (.n .i64 m)), (4, .v (.n .i64 i))], []⟩) (fun m i => l.length + 1 - i.toNat)
    (fun m i => 1 ≤ i ∧ i ≤ l.length + 1 ∧ ((x :: l).drop i.toNat).foldl min m = l.foldl min x) x 1 (by simp; omega) ?_
  intro m iz ⟨h1, h2, h3⟩ ih
  obtain ⟨i, rfl⟩ : ∃ i : Nat, iz = i := ⟨iz.toNat, by omega⟩
  simp only [Int.toNat_natCast] at h3
  refine DecK.dec (fun h => ?_) (fun h => ?_)
  · simp only [List.length_cons] at h
    obtain ⟨y, hy, ey, my, _⟩ := at_ex' (l := x :: l) (k := i) (by simp only [List.length_cons]; omega)
    have wi : IntKind.i64.wrap ((i : Int) + 1) = ((i + 1 : Nat) : Int) := by simp (discharger := omega) only [w64, wu64, wu8, w32, wu32, tdivC, tmodC]; omega
    rw [ey, List.foldl_cons] at h3
    refine OptK.mk _ (ria i rfl (by simp only [List.length_cons]; omega)) ?_
    refine OptK.mk _ (rld1 (g := fun x => .n .i64 x) hy) ?_
    have em : (if y < m then y else m) = min m y := by omega
    refine ih _ _ ⟨?_, ?_, ?_⟩ ?_
    all_goals try simp only [wi, em, Int.toNat_natCast]
    · omega
    · omega
    · exact h3
    · omega
  · simp only [List.length_cons] at h
    ((repeat' first | refine DecK.tt ?_ | refine DecK.ff ?_ | refine DecK.beq (fun _ => ?_) (fun _ => ?_) | refine DecK.bne (fun _ => ?_) (fun _ => ?_) | refine DecK.dec (fun _ => ?_) (fun _ => ?_) | refine OptK.mk _ rfl ?_ | refine endV (by rfl) ?_) <;> (try with_reducible rfl))
    rw [List.drop_eq_nil_of_le (by simp only [List.length_cons]; omega), List.foldl_nil] at h3
    rw [h3]
theorem maxSFix (x : Int) (l : List Int) (t : Bool) (hl : l.length ≤ 4000000) : Pure Try.prog 142 [.sl (x :: l).length ((x :: l).flatMap ni) t] (.n .i64 (l.foldl max x)) := by
  refine pure_of_wp of142 (Nat.le_of_ble_eq_true rfl) ?_
  refine DecK.no (decide_eq_false (by simp; omega)) ?_
  refine OptK.mk _ (ria 0 rfl (by simp)) ?_
  refine OptK.mk _ (rld1 (g := fun x => .n .i64 x) (l := x :: l) (m := 0) rfl) ?_
  refine loop_ind2 (fun (m i : Int) => ⟨[(0, .v (.sl (x :: l).length ((x :: l).flatMap ni) t)), (3, .v (.n .i64 m)), (4, .v (.n .i64 i))], []⟩) (fun m i => l.length + 1 - i.toNat)
    (fun m i => 1 ≤ i ∧ i ≤ l.length + 1 ∧ ((x :: l).drop i.toNat).foldl max m = l.foldl max x) x 1 (by simp; omega) ?_
  intro m iz ⟨h1, h2, h3⟩ ih
  obtain ⟨i, rfl⟩ : ∃ i : Nat, iz = i := ⟨iz.toNat, by omega⟩
  simp only [Int.toNat_natCast] at h3
  refine DecK.dec (fun h => ?_) (fun h => ?_)
  · simp only [List.length_cons] at h
    obtain ⟨y, hy, ey, my, _⟩ := at_ex' (l := x :: l) (k := i) (by simp only [List.length_cons]; omega)
    have wi : IntKind.i64.wrap ((i : Int) + 1) = ((i + 1 : Nat) : Int) := by simp (discharger := omega) only [w64, wu64, wu8, w32, wu32, tdivC, tmodC]; omega
    rw [ey, List.foldl_cons] at h3
    refine OptK.mk _ (ria i rfl (by simp only [List.length_cons]; omega)) ?_
    refine OptK.mk _ (rld1 (g := fun x => .n .i64 x) hy) ?_
    have em : (if y > m then y else m) = max m y := by omega
    refine ih _ _ ⟨?_, ?_, ?_⟩ ?_
    all_goals try simp only [wi, em, Int.toNat_natCast]
    · omega
    · omega
    · exact h3
    · omega
  · simp only [List.length_cons] at h
    ((repeat' first | refine DecK.tt ?_ | refine DecK.ff ?_ | refine DecK.beq (fun _ => ?_) (fun _ => ?_) | refine DecK.bne (fun _ => ?_) (fun _ => ?_) | refine DecK.dec (fun _ => ?_) (fun _ => ?_) | refine OptK.mk _ rfl ?_ | refine endV (by rfl) ?_) <;> (try with_reducible rfl))
    rw [List.drop_eq_nil_of_le (by simp only [List.length_cons]; omega), List.foldl_nil] at h3
    rw [h3]
end Go.Proofs.Ytpggblmopgfloaa.Sv

/- Tables of refraction: checks, the bound of the altitude; the law HorizonBends. No condition. -/
import Derived.Test.YtpggblmopgfloaaHb
import Derived.Test.YtpggblmopgfloaaBcArc
import Derived.Test.YtpggblmopgfloaaBp
namespace Go.Proofs.Ytpggblmopgfloaa.Sv
open Go Go.RowKit
set_option linter.unusedVariables false
set_option linter.unusedSimpArgs false
set_option maxRecDepth 100000
/-- live: [0, 9, 10, 11] -/
def L82_0 : SC := .seq (.reg [⟨some 12, none, .po (.bin .lss), [.tm 11, .tm 10]⟩] [0, 9, 10, 11, 12]) (.seq (.cond (.tm 12) .skip (.exit 0)) (.seq (.block 1 (.seq (.reg [⟨some 13, none, .mv, [.tm 11]⟩, ⟨some 14, none, .ia none 4, [.tm 9, .tm 11]⟩, ⟨some 15, none, .ld true 4 true, [.tm 14]⟩, ⟨some 4, none, .alloc [.n .i64 0, .n .i64 0, .n .i64 0, .b false], []⟩, ⟨some 3, none, .mv, [.tm 13]⟩, ⟨none, none, .st 4, [.tm 4, .tm 15]⟩] [0, 3, 4, 9, 10, 11]) (.seq (.reg [⟨some 16, none, .fa 1, [.tm 4]⟩, ⟨some 17, none, .ld true 3 false, [.tm 16]⟩, ⟨some 18, none, .call 130, [.tm 17]⟩, ⟨some 5, none, .mv, [.tm 18]⟩] [0, 3, 4, 5, 9, 10, 11]) (.block 2 (.seq (.reg [⟨some 20, none, .fa 0, [.tm 4]⟩, ⟨some 21, none, .ld false 1 false, [.tm 20]⟩, ⟨some 22, none, .po (.bin .lss), [.tm 21, .cn (.n .i64 (-1073741824))]⟩, ⟨some 23, none, .mv, [.tm 22]⟩, ⟨some 24, some (23, false), .fa 0, [.tm 4]⟩, ⟨some 25, some (23, false), .ld false 1 false, [.tm 24]⟩, ⟨some 26, some (23, false), .po (.bin .gtr), [.tm 25, .cn (.n .i64 1073741824)]⟩, ⟨some 27, none, .pick, [.tm 23, .cn (.b true), .tm 26]⟩, ⟨some 19, none, .mv, [.tm 27]⟩] [0, 3, 4, 5, 9, 10, 11, 19]) (.cond (.tm 19) (.seq (.reg [⟨some 2, none, .mv, [.cn (.n .i64 4)]⟩] [2]) .ret) (.seq (.reg [⟨some 29, none, .mv, [.tm 5]⟩, ⟨some 30, none, .po (.bin .neq), [.tm 29, .cn (.n .i64 0)]⟩, ⟨some 28, none, .mv, [.tm 30]⟩] [0, 3, 4, 5, 9, 10, 11, 28]) (.cond (.tm 28) (.seq (.reg [⟨some 31, none, .mv, [.tm 5]⟩, ⟨some 2, none, .mv, [.tm 31]⟩] [2]) .ret) (.seq (.dreg [⟨some 33, none, .mv, [.tm 3]⟩, ⟨some 34, none, .po (.bin .gtr), [.tm 33, .cn (.n .i64 0)]⟩, ⟨some 35, none, .mv, [.tm 34]⟩, ⟨some 36, some (35, true), .fa 0, [.tm 4]⟩, ⟨some 37, some (35, true), .ld false 1 false, [.tm 36]⟩, ⟨some 38, some (35, true), .mv, [.tm 0]⟩, ⟨some 39, some (35, true), .mv, [.tm 3]⟩, ⟨some 40, some (35, true), .po (.bin .sub), [.tm 39, .cn (.n .i64 1)]⟩, ⟨some 41, some (35, true), .ia none 4, [.tm 38, .tm 40]⟩, ⟨some 42, some (35, true), .fa 0, [.tm 41]⟩, ⟨some 43, some (35, true), .ld false 1 true, [.tm 42]⟩, ⟨some 44, some (35, true), .po (.bin .leq), [.tm 37, .tm 43]⟩, ⟨some 45, none, .pick, [.tm 35, .tm 44, .cn (.b false)]⟩, ⟨some 32, none, .mv, [.tm 45]⟩] [] [0, 9, 10, 11, 32]) (.cond (.tm 32) (.seq (.reg [⟨some 2, none, .mv, [.cn (.n .i64 11)]⟩] [2]) .ret) .skip)))))))))) (.reg [⟨some 46, none, .po (.bin .add), [.tm 11, .cn (.n .i64 1)]⟩, ⟨some 11, none, .mv, [.tm 46]⟩] [0, 9, 10, 11])))
/-- spyglass/horizon.CheckBends -/
def F82 : Fn1 := ⟨47, .seq (.reg [⟨some 2, none, .mv, [.cn (.n .i64 0)]⟩] [0]) (.seq (.seq (.reg [⟨some 6, none, .mv, [.tm 0]⟩, ⟨some 7, none, .len false, [.tm 6]⟩, ⟨some 8, none, .po (.bin .gtr), [.tm 7, .cn (.n .i64 64)]⟩] [0, 8]) (.cond (.tm 8) (.seq (.reg [⟨some 2, none, .mv, [.cn (.n .i64 2)]⟩] [2]) .ret) .skip)) (.seq (.seq (.reg [⟨some 9, none, .mv, [.tm 0]⟩, ⟨some 10, none, .len false, [.tm 9]⟩, ⟨some 11, none, .mv, [.cn (.n .i64 0)]⟩] [0, 9, 10, 11]) (.block 0 (.loop [0, 9, 10, 11] L82_0))) (.seq (.reg [⟨some 2, none, .mv, [.cn (.n .i64 0)]⟩] [2]) .ret))), [.tm 2]⟩
theorem of82 : Fn1.of Try.prog 82 ⟨false, [], false⟩ [[0], [0, 8], [2], [0, 9, 10, 11], [0, 9, 10, 11], [0, 9, 10, 11, 12], [0, 3, 4, 9, 10, 11], [0, 3, 4, 5, 9, 10, 11], [0, 3, 4, 5, 9, 10, 11, 19], [2], [0, 3, 4, 5, 9, 10, 11, 28], [2], [0, 9, 10, 11, 32], [2], [0, 9, 10, 11], [2]] = some F82 := by kernel_rfl
/-- live: [3, 4, 7, 90, 91, 92] -/
def L84_0 : SC := .seq (.reg [⟨some 93, none, .po (.bin .lss), [.tm 92, .tm 91]⟩] [3, 4, 7, 90, 91, 92, 93]) (.seq (.cond (.tm 93) .skip (.exit 4)) (.seq (.block 5 (.seq (.reg [⟨some 94, none, .ia none 4, [.tm 90, .tm 92]⟩, ⟨some 95, none, .ld true 4 true, [.tm 94]⟩, ⟨some 9, none, .alloc [.n .i64 0, .n .i64 0, .n .i64 0, .b false], []⟩, ⟨none, none, .st 4, [.tm 9, .tm 95]⟩] [3, 4, 7, 9, 90, 91, 92]) (.reg [⟨some 96, none, .ld true 3 false, [.tm 7]⟩, ⟨some 97, none, .fa 1, [.tm 9]⟩, ⟨some 98, none, .ld true 3 false, [.tm 97]⟩, ⟨some 99, none, .call 133, [.tm 96, .tm 98]⟩, ⟨none, none, .st 3, [.tm 7, .tm 99]⟩] [3, 4, 7, 90, 91, 92]))) (.reg [⟨some 100, none, .po (.bin .add), [.tm 92, .cn (.n .i64 1)]⟩, ⟨some 92, none, .mv, [.tm 100]⟩] [3, 4, 7, 90, 91, 92])))
/-- live: [0, 3, 4, 5, 6] -/
def L84_1 : SC := .seq (.seq (.dreg [⟨some 65, none, .mv, [.tm 6]⟩, ⟨some 66, none, .mv, [.tm 5]⟩, ⟨some 67, none, .po (.bin .gtr), [.tm 65, .tm 66]⟩, ⟨some 68, none, .mv, [.tm 67]⟩, ⟨some 69, some (68, true), .mv, [.tm 0]⟩, ⟨some 70, some (68, true), .mv, [.tm 6]⟩, ⟨some 71, some (68, true), .po (.bin .sub), [.tm 70, .cn (.n .i64 1)]⟩, ⟨some 72, some (68, true), .ia none 4, [.tm 69, .tm 71]⟩, ⟨some 73, some (68, true), .fa 0, [.tm 72]⟩, ⟨some 74, some (68, true), .ld false 1 true, [.tm 73]⟩, ⟨some 75, some (68, true), .fa 1, [.tm 3]⟩, ⟨some 76, some (68, true), .ld false 1 false, [.tm 75]⟩, ⟨some 77, some (68, true), .po (.bin .geq), [.tm 74, .tm 76]⟩, ⟨some 78, none, .pick, [.tm 68, .tm 77, .cn (.b false)]⟩] [] [0, 3, 4, 5, 6, 78]) (.cond (.tm 78) .skip (.exit 2))) (.block 3 (.reg [⟨some 79, none, .mv, [.tm 6]⟩, ⟨some 80, none, .po (.bin .sub), [.tm 79, .cn (.n .i64 1)]⟩, ⟨some 6, none, .mv, [.tm 80]⟩] [0, 3, 4, 5, 6]))
/-- live: [0, 3, 4, 5, 6] -/
def L84_2 : SC := .seq (.seq (.dreg [⟨some 49, none, .mv, [.tm 5]⟩, ⟨some 50, none, .mv, [.tm 6]⟩, ⟨some 51, none, .po (.bin .lss), [.tm 49, .tm 50]⟩, ⟨some 52, none, .mv, [.tm 51]⟩, ⟨some 53, some (52, true), .mv, [.tm 0]⟩, ⟨some 54, some (52, true), .mv, [.tm 5]⟩, ⟨some 55, some (52, true), .po (.bin .add), [.tm 54, .cn (.n .i64 1)]⟩, ⟨some 56, some (52, true), .ia none 4, [.tm 53, .tm 55]⟩, ⟨some 57, some (52, true), .fa 0, [.tm 56]⟩, ⟨some 58, some (52, true), .ld false 1 true, [.tm 57]⟩, ⟨some 59, some (52, true), .fa 0, [.tm 3]⟩, ⟨some 60, some (52, true), .ld false 1 false, [.tm 59]⟩, ⟨some 61, some (52, true), .po (.bin .leq), [.tm 58, .tm 60]⟩, ⟨some 62, none, .pick, [.tm 52, .tm 61, .cn (.b false)]⟩] [] [0, 3, 4, 5, 6, 62]) (.cond (.tm 62) .skip (.exit 0))) (.block 1 (.reg [⟨some 63, none, .mv, [.tm 5]⟩, ⟨some 64, none, .po (.bin .add), [.tm 63, .cn (.n .i64 1)]⟩, ⟨some 5, none, .mv, [.tm 64]⟩] [0, 3, 4, 5, 6]))
/-- spyglass/horizon.Refract -/
def F84 : Fn1 := ⟨104, .seq (.reg [⟨some 3, none, .box, [.tm 1]⟩, ⟨some 4, none, .alloc [.n .i64 0, .n .i64 0, .b false], []⟩] [0, 3, 4]) (.seq (.seq (.reg [⟨some 10, none, .ld true 3 false, [.tm 3]⟩, ⟨some 11, none, .call 132, [.tm 10]⟩, ⟨none, none, .st 3, [.tm 3, .tm 11]⟩] [0, 3, 4]) (.seq (.dreg [⟨some 12, none, .mv, [.tm 0]⟩, ⟨some 13, none, .call 82, [.tm 12]⟩, ⟨some 14, none, .po (.bin .neq), [.tm 13, .cn (.n .i64 0)]⟩, ⟨some 15, none, .mv, [.tm 14]⟩, ⟨some 16, some (15, false), .fa 2, [.tm 3]⟩, ⟨some 17, some (15, false), .ld false 1 false, [.tm 16]⟩, ⟨some 18, none, .pick, [.tm 15, .cn (.b true), .tm 17]⟩, ⟨some 19, none, .mv, [.tm 18]⟩, ⟨some 20, some (19, false), .mv, [.tm 0]⟩, ⟨some 21, some (19, false), .len false, [.tm 20]⟩, ⟨some 22, some (19, false), .po (.bin .eql), [.tm 21, .cn (.n .i64 0)]⟩, ⟨some 23, none, .pick, [.tm 19, .cn (.b true), .tm 22]⟩, ⟨some 24, none, .mv, [.tm 23]⟩, ⟨some 25, some (24, false), .fa 0, [.tm 3]⟩, ⟨some 26, some (24, false), .ld false 1 false, [.tm 25]⟩, ⟨some 27, some (24, false), .mv, [.tm 0]⟩, ⟨some 28, some (24, false), .ia none 4, [.tm 27, .cn (.n .i64 0)]⟩, ⟨some 29, some (24, false), .fa 0, [.tm 28]⟩, ⟨some 30, some (24, false), .ld false 1 true, [.tm 29]⟩, ⟨some 31, some (24, false), .po (.bin .lss), [.tm 26, .tm 30]⟩, ⟨some 32, none, .pick, [.tm 24, .cn (.b true), .tm 31]⟩, ⟨some 33, none, .mv, [.tm 32]⟩, ⟨some 34, some (33, false), .fa 1, [.tm 3]⟩, ⟨some 35, some (33, false), .ld false 1 false, [.tm 34]⟩, ⟨some 36, some (33, false), .mv, [.tm 0]⟩, ⟨some 37, some (33, false), .mv, [.tm 0]⟩, ⟨some 38, some (33, false), .len false, [.tm 37]⟩, ⟨some 39, some (33, false), .po (.bin .sub), [.tm 38, .cn (.n .i64 1)]⟩, ⟨some 40, some (33, false), .ia none 4, [.tm 36, .tm 39]⟩, ⟨some 41, some (33, false), .fa 0, [.tm 40]⟩, ⟨some 42, some (33, false), .ld false 1 true, [.tm 41]⟩, ⟨some 43, some (33, false), .po (.bin .gtr), [.tm 35, .tm 42]⟩, ⟨some 44, none, .pick, [.tm 33, .cn (.b true), .tm 43]⟩] [] [0, 3, 4, 44]) (.cond (.tm 44) (.seq (.reg [⟨some 45, none, .call 121, []⟩, ⟨none, none, .st 3, [.tm 4, .tm 45]⟩] [4]) .ret) .skip))) (.seq (.reg [⟨some 46, none, .mv, [.tm 0]⟩, ⟨some 47, none, .len false, [.tm 46]⟩, ⟨some 48, none, .po (.bin .sub), [.tm 47, .cn (.n .i64 1)]⟩, ⟨some 5, none, .mv, [.cn (.n .i64 0)]⟩, ⟨some 6, none, .mv, [.tm 48]⟩] [0, 3, 4, 5, 6]) (.seq (.block 0 (.loop [0, 3, 4, 5, 6] L84_2)) (.seq (.block 2 (.loop [0, 3, 4, 5, 6] L84_1)) (.seq (.reg [⟨some 81, none, .mv, [.tm 0]⟩, ⟨some 82, none, .mv, [.tm 5]⟩, ⟨some 83, none, .ia none 4, [.tm 81, .tm 82]⟩, ⟨some 84, none, .fa 1, [.tm 83]⟩, ⟨some 85, none, .ld true 3 true, [.tm 84]⟩, ⟨some 7, none, .alloc [.n .i64 0, .n .i64 0, .b false], []⟩, ⟨none, none, .st 3, [.tm 7, .tm 85]⟩] [0, 3, 4, 5, 6, 7]) (.seq (.seq (.reg [⟨some 86, none, .mv, [.tm 0]⟩, ⟨some 87, none, .mv, [.tm 5]⟩, ⟨some 88, none, .mv, [.tm 6]⟩, ⟨some 89, none, .po (.bin .add), [.tm 88, .cn (.n .i64 1)]⟩, ⟨some 90, none, .sl false 4 true true false, [.tm 86, .tm 87, .tm 89]⟩, ⟨some 91, none, .len false, [.tm 90]⟩, ⟨some 92, none, .mv, [.cn (.n .i64 0)]⟩] [3, 4, 7, 90, 91, 92]) (.block 4 (.loop [3, 4, 7, 90, 91, 92] L84_0))) (.seq (.reg [⟨some 101, none, .ld true 3 false, [.tm 3]⟩, ⟨some 102, none, .ld true 3 false, [.tm 7]⟩, ⟨some 103, none, .call 123, [.tm 101, .tm 102]⟩, ⟨none, none, .st 3, [.tm 4, .tm 103]⟩] [4]) .ret))))))), [.cell 4 true 3]⟩
theorem of84 : Fn1.of Try.prog 84 ⟨false, [], false⟩ [[0, 3, 4], [0, 3, 4], [0, 3, 4, 44], [4], [0, 3, 4, 5, 6], [0, 3, 4, 5, 6], [0, 3, 4, 5, 6, 62], [0, 3, 4, 5, 6], [0, 3, 4, 5, 6], [0, 3, 4, 5, 6, 78], [0, 3, 4, 5, 6], [0, 3, 4, 5, 6, 7], [3, 4, 7, 90, 91, 92], [3, 4, 7, 90, 91, 92], [3, 4, 7, 90, 91, 92, 93], [3, 4, 7, 9, 90, 91, 92], [3, 4, 7, 90, 91, 92], [3, 4, 7, 90, 91, 92], [4]] = some F84 := by kernel_rfl
/-- live: [0, 9, 10, 11] -/
def L83_0 : SC := .seq (.reg [⟨some 12, none, .po (.bin .lss), [.tm 11, .tm 10]⟩] [0, 9, 10, 11, 12]) (.seq (.cond (.tm 12) .skip (.exit 0)) (.seq (.block 1 (.seq (.reg [⟨some 13, none, .mv, [.tm 11]⟩, ⟨some 14, none, .ia none 4, [.tm 9, .tm 11]⟩, ⟨some 15, none, .ld true 4 true, [.tm 14]⟩, ⟨some 4, none, .alloc [.n .i64 0, .n .i64 0, .n .i64 0, .b false], []⟩, ⟨some 3, none, .mv, [.tm 13]⟩, ⟨none, none, .st 4, [.tm 4, .tm 15]⟩] [0, 3, 4, 9, 10, 11]) (.seq (.seq (.reg [⟨some 16, none, .fa 0, [.tm 4]⟩, ⟨some 17, none, .ld false 1 false, [.tm 16]⟩, ⟨some 18, none, .po (.bin .gtr), [.tm 17, .cn (.n .i64 1073741824)]⟩, ⟨some 19, none, .mv, [.tm 18]⟩, ⟨some 20, some (19, false), .fa 0, [.tm 4]⟩, ⟨some 21, some (19, false), .ld false 1 false, [.tm 20]⟩, ⟨some 22, some (19, false), .po (.bin .lss), [.tm 21, .cn (.n .i64 (-1073741824))]⟩, ⟨some 23, none, .pick, [.tm 19, .cn (.b true), .tm 22]⟩] [0, 3, 4, 9, 10, 11, 23]) (.cond (.tm 23) (.seq (.reg [⟨some 2, none, .mv, [.cn (.n .i64 4)]⟩] [2]) .ret) .skip)) (.seq (.seq (.reg [⟨some 24, none, .fa 1, [.tm 4]⟩, ⟨some 25, none, .ld true 3 false, [.tm 24]⟩, ⟨some 26, none, .call 131, [.tm 25]⟩, ⟨some 5, none, .mv, [.tm 26]⟩] [0, 3, 4, 5, 9, 10, 11]) (.seq (.reg [⟨some 27, none, .mv, [.tm 5]⟩, ⟨some 28, none, .po (.bin .neq), [.tm 27, .cn (.n .i64 0)]⟩] [0, 3, 4, 5, 9, 10, 11, 28]) (.cond (.tm 28) (.seq (.reg [⟨some 29, none, .mv, [.tm 5]⟩, ⟨some 2, none, .mv, [.tm 29]⟩] [2]) .ret) .skip))) (.seq (.dreg [⟨some 30, none, .mv, [.tm 3]⟩, ⟨some 31, none, .po (.bin .gtr), [.tm 30, .cn (.n .i64 0)]⟩, ⟨some 32, none, .mv, [.tm 31]⟩, ⟨some 33, some (32, true), .mv, [.tm 0]⟩, ⟨some 34, some (32, true), .mv, [.tm 3]⟩, ⟨some 35, some (32, true), .po (.bin .sub), [.tm 34, .cn (.n .i64 1)]⟩, ⟨some 36, some (32, true), .ia none 4, [.tm 33, .tm 35]⟩, ⟨some 37, some (32, true), .fa 0, [.tm 36]⟩, ⟨some 38, some (32, true), .ld false 1 true, [.tm 37]⟩, ⟨some 39, some (32, true), .fa 0, [.tm 4]⟩, ⟨some 40, some (32, true), .ld false 1 false, [.tm 39]⟩, ⟨some 41, some (32, true), .po (.bin .geq), [.tm 38, .tm 40]⟩, ⟨some 42, none, .pick, [.tm 32, .tm 41, .cn (.b false)]⟩] [] [0, 9, 10, 11, 42]) (.cond (.tm 42) (.seq (.reg [⟨some 2, none, .mv, [.cn (.n .i64 11)]⟩] [2]) .ret) .skip)))))) (.reg [⟨some 43, none, .po (.bin .add), [.tm 11, .cn (.n .i64 1)]⟩, ⟨some 11, none, .mv, [.tm 43]⟩] [0, 9, 10, 11])))
/-- spyglass/spyref1.BendsErr -/
def F83 : Fn1 := ⟨44, .seq (.reg [⟨some 2, none, .mv, [.cn (.n .i64 0)]⟩] [0]) (.seq (.seq (.reg [⟨some 6, none, .mv, [.tm 0]⟩, ⟨some 7, none, .len false, [.tm 6]⟩, ⟨some 8, none, .po (.bin .gtr), [.tm 7, .cn (.n .i64 64)]⟩] [0, 8]) (.cond (.tm 8) (.seq (.reg [⟨some 2, none, .mv, [.cn (.n .i64 2)]⟩] [2]) .ret) .skip)) (.seq (.seq (.reg [⟨some 9, none, .mv, [.tm 0]⟩, ⟨some 10, none, .len false, [.tm 9]⟩, ⟨some 11, none, .mv, [.cn (.n .i64 0)]⟩] [0, 9, 10, 11]) (.block 0 (.loop [0, 9, 10, 11] L83_0))) (.seq (.reg [⟨some 2, none, .mv, [.cn (.n .i64 0)]⟩] [2]) .ret))), [.tm 2]⟩
theorem of83 : Fn1.of Try.prog 83 ⟨false, [], false⟩ [[0], [0, 8], [2], [0, 9, 10, 11], [0, 9, 10, 11], [0, 9, 10, 11, 12], [0, 3, 4, 9, 10, 11], [0, 3, 4, 9, 10, 11, 23], [2], [0, 3, 4, 5, 9, 10, 11], [0, 3, 4, 5, 9, 10, 11, 28], [2], [0, 9, 10, 11, 42], [2], [0, 9, 10, 11], [2]] = some F83 := by kernel_rfl
/-- live: [0, 4, 5, 6, 7, 9, 10, 13, 14, 15] -/
def L85_0 : SC := .seq (.seq (.reg [⟨some 66, none, .mv, [.tm 15]⟩, ⟨some 67, none, .mv, [.tm 10]⟩, ⟨some 68, none, .po (.bin .leq), [.tm 66, .tm 67]⟩] [0, 4, 5, 6, 7, 9, 10, 13, 14, 15, 68]) (.cond (.tm 68) .skip (.exit 2))) (.seq (.block 3 (.seq (.reg [⟨some 72, none, .mv, [.tm 0]⟩, ⟨some 73, none, .mv, [.tm 15]⟩, ⟨some 74, none, .ia none 4, [.tm 72, .tm 73]⟩, ⟨some 75, none, .fa 1, [.tm 74]⟩, ⟨some 76, none, .ld true 3 true, [.tm 75]⟩, ⟨some 77, none, .call 134, [.tm 76]⟩, ⟨some 71, none, .mv, [.tm 77]⟩, ⟨some 78, none, .po (.ext 0), [.tm 71]⟩, ⟨some 79, none, .po (.ext 1), [.tm 71]⟩, ⟨some 80, none, .po (.ext 2), [.tm 71]⟩, ⟨some 16, none, .alloc [.b false, .sl 0 [] true], []⟩, ⟨some 17, none, .alloc [.b false, .sl 0 [] true], []⟩, ⟨none, none, .st 2, [.tm 16, .tm 78]⟩, ⟨none, none, .st 2, [.tm 17, .tm 79]⟩, ⟨some 18, none, .mv, [.tm 80]⟩] [0, 4, 5, 6, 7, 9, 10, 13, 14, 15, 16, 17, 18]) (.seq (.seq (.reg [⟨some 81, none, .mv, [.tm 18]⟩, ⟨some 82, none, .po (.un .not), [.tm 81]⟩] [0, 4, 5, 6, 7, 9, 10, 13, 14, 15, 16, 17, 82]) (.cond (.tm 82) (.seq (.reg [⟨some 83, none, .ld true 3 false, [.tm 5]⟩, ⟨none, none, .st 3, [.tm 4, .tm 83]⟩] [4]) .ret) .skip)) (.seq (.seq (.reg [⟨some 84, none, .mv, [.tm 15]⟩, ⟨some 85, none, .mv, [.tm 9]⟩, ⟨some 86, none, .po (.bin .eql), [.tm 84, .tm 85]⟩, ⟨some 87, none, .mv, [.tm 86]⟩, ⟨some 88, some (87, false), .ld true 2 false, [.tm 16]⟩, ⟨some 89, some (87, false), .ld true 2 false, [.tm 13]⟩, ⟨some 90, some (87, false), .call 14, [.tm 88, .tm 89]⟩, ⟨some 91, some (87, false), .po (.bin .lss), [.tm 90, .cn (.n .i64 0)]⟩, ⟨some 92, none, .pick, [.tm 87, .cn (.b true), .tm 91]⟩] [0, 4, 5, 6, 7, 9, 10, 13, 14, 15, 16, 17, 92]) (.cond (.tm 92) (.reg [⟨some 93, none, .ld true 2 false, [.tm 16]⟩, ⟨none, none, .st 2, [.tm 13, .tm 93]⟩] [0, 4, 5, 6, 7, 9, 10, 13, 14, 15, 17]) .skip)) (.seq (.reg [⟨some 94, none, .mv, [.tm 15]⟩, ⟨some 95, none, .mv, [.tm 9]⟩, ⟨some 96, none, .po (.bin .eql), [.tm 94, .tm 95]⟩, ⟨some 97, none, .mv, [.tm 96]⟩, ⟨some 98, some (97, false), .ld true 2 false, [.tm 17]⟩, ⟨some 99, some (97, false), .ld true 2 false, [.tm 14]⟩, ⟨some 100, some (97, false), .call 14, [.tm 98, .tm 99]⟩, ⟨some 101, some (97, false), .po (.bin .gtr), [.tm 100, .cn (.n .i64 0)]⟩, ⟨some 102, none, .pick, [.tm 97, .cn (.b true), .tm 101]⟩] [0, 4, 5, 6, 7, 9, 10, 13, 14, 15, 17, 102]) (.cond (.tm 102) (.reg [⟨some 103, none, .ld true 2 false, [.tm 17]⟩, ⟨none, none, .st 2, [.tm 14, .tm 103]⟩] [0, 4, 5, 6, 7, 9, 10, 13, 14, 15]) .skip)))))) (.reg [⟨some 69, none, .mv, [.tm 15]⟩, ⟨some 70, none, .po (.bin .add), [.tm 69, .cn (.n .i64 1)]⟩, ⟨some 15, none, .mv, [.tm 70]⟩] [0, 4, 5, 6, 7, 9, 10, 13, 14, 15]))
/-- live: [0, 3, 4, 5, 6, 7, 9, 10, 34, 35, 36] -/
def L85_1 : SC := .seq (.reg [⟨some 37, none, .po (.bin .lss), [.tm 36, .tm 35]⟩] [0, 3, 4, 5, 6, 7, 9, 10, 34, 35, 36, 37]) (.seq (.cond (.tm 37) .skip (.exit 0)) (.seq (.block 1 (.seq (.reg [⟨some 38, none, .mv, [.tm 36]⟩, ⟨some 39, none, .ia none 4, [.tm 34, .tm 36]⟩, ⟨some 40, none, .ld true 4 true, [.tm 39]⟩, ⟨some 12, none, .alloc [.n .i64 0, .n .i64 0, .n .i64 0, .b false], []⟩, ⟨some 11, none, .mv, [.tm 38]⟩, ⟨none, none, .st 4, [.tm 12, .tm 40]⟩] [0, 3, 4, 5, 6, 7, 9, 10, 11, 12, 34, 35, 36]) (.seq (.seq (.reg [⟨some 41, none, .fa 0, [.tm 12]⟩, ⟨some 42, none, .ld false 1 false, [.tm 41]⟩, ⟨some 43, none, .fa 0, [.tm 3]⟩, ⟨some 44, none, .ld false 1 false, [.tm 43]⟩, ⟨some 45, none, .po (.bin .leq), [.tm 42, .tm 44]⟩] [0, 3, 4, 5, 6, 7, 9, 10, 11, 12, 34, 35, 36, 45]) (.cond (.tm 45) (.reg [⟨some 46, none, .mv, [.tm 11]⟩, ⟨some 9, none, .mv, [.tm 46]⟩] [0, 3, 4, 5, 6, 7, 9, 10, 11, 12, 34, 35, 36]) .skip)) (.seq (.reg [⟨some 47, none, .fa 0, [.tm 12]⟩, ⟨some 48, none, .ld false 1 false, [.tm 47]⟩, ⟨some 49, none, .fa 1, [.tm 3]⟩, ⟨some 50, none, .ld false 1 false, [.tm 49]⟩, ⟨some 51, none, .po (.bin .geq), [.tm 48, .tm 50]⟩, ⟨some 52, none, .mv, [.tm 51]⟩, ⟨some 53, some (52, true), .mv, [.tm 10]⟩, ⟨some 54, some (52, true), .po (.bin .lss), [.tm 53, .cn (.n .i64 0)]⟩, ⟨some 55, none, .pick, [.tm 52, .tm 54, .cn (.b false)]⟩] [0, 3, 4, 5, 6, 7, 9, 10, 11, 34, 35, 36, 55]) (.cond (.tm 55) (.reg [⟨some 56, none, .mv, [.tm 11]⟩, ⟨some 10, none, .mv, [.tm 56]⟩] [0, 3, 4, 5, 6, 7, 9, 10, 34, 35, 36]) .skip))))) (.reg [⟨some 57, none, .po (.bin .add), [.tm 36, .cn (.n .i64 1)]⟩, ⟨some 36, none, .mv, [.tm 57]⟩] [0, 3, 4, 5, 6, 7, 9, 10, 34, 35, 36])))
/-- spyglass/spyref1.RefractOf -/
def F85 : Fn1 := ⟨111, .seq (.reg [⟨some 3, none, .box, [.tm 1]⟩, ⟨some 4, none, .alloc [.n .i64 0, .n .i64 0, .b false], []⟩] [0, 3, 4]) (.seq (.reg [⟨some 19, none, .po (.build [.n .i64 0, .n .i64 0, .b false] [(2, 1)]), [.cn (.b true)]⟩, ⟨some 5, none, .alloc [.n .i64 0, .n .i64 0, .b false], []⟩, ⟨none, none, .st 3, [.tm 5, .tm 19]⟩] [0, 3, 4, 5]) (.seq (.reg [⟨some 21, none, .ld true 3 false, [.tm 3]⟩, ⟨some 22, none, .call 134, [.tm 21]⟩, ⟨some 20, none, .mv, [.tm 22]⟩, ⟨some 23, none, .po (.ext 0), [.tm 20]⟩, ⟨some 24, none, .po (.ext 1), [.tm 20]⟩, ⟨some 25, none, .po (.ext 2), [.tm 20]⟩, ⟨some 6, none, .alloc [.b false, .sl 0 [] true], []⟩, ⟨some 7, none, .alloc [.b false, .sl 0 [] true], []⟩, ⟨none, none, .st 2, [.tm 6, .tm 23]⟩, ⟨none, none, .st 2, [.tm 7, .tm 24]⟩, ⟨some 8, none, .mv, [.tm 25]⟩] [0, 3, 4, 5, 6, 7, 8]) (.seq (.seq (.reg [⟨some 26, none, .mv, [.tm 8]⟩, ⟨some 27, none, .po (.un .not), [.tm 26]⟩, ⟨some 28, none, .mv, [.tm 27]⟩, ⟨some 29, some (28, false), .mv, [.tm 0]⟩, ⟨some 30, some (28, false), .call 83, [.tm 29]⟩, ⟨some 31, some (28, false), .po (.bin .neq), [.tm 30, .cn (.n .i64 0)]⟩, ⟨some 32, none, .pick, [.tm 28, .cn (.b true), .tm 31]⟩] [0, 3, 4, 5, 6, 7, 32]) (.cond (.tm 32) (.seq (.reg [⟨some 33, none, .ld true 3 false, [.tm 5]⟩, ⟨none, none, .st 3, [.tm 4, .tm 33]⟩] [4]) .ret) .skip)) (.seq (.reg [⟨some 9, none, .mv, [.cn (.n .i64 (-1))]⟩, ⟨some 10, none, .mv, [.cn (.n .i64 (-1))]⟩] [0, 3, 4, 5, 6, 7, 9, 10]) (.seq (.seq (.reg [⟨some 34, none, .mv, [.tm 0]⟩, ⟨some 35, none, .len false, [.tm 34]⟩, ⟨some 36, none, .mv, [.cn (.n .i64 0)]⟩] [0, 3, 4, 5, 6, 7, 9, 10, 34, 35, 36]) (.block 0 (.loop [0, 3, 4, 5, 6, 7, 9, 10, 34, 35, 36] L85_1))) (.seq (.seq (.reg [⟨some 58, none, .mv, [.tm 9]⟩, ⟨some 59, none, .po (.bin .lss), [.tm 58, .cn (.n .i64 0)]⟩, ⟨some 60, none, .mv, [.tm 59]⟩, ⟨some 61, some (60, false), .mv, [.tm 10]⟩, ⟨some 62, some (60, false), .po (.bin .lss), [.tm 61, .cn (.n .i64 0)]⟩, ⟨some 63, none, .pick, [.tm 60, .cn (.b true), .tm 62]⟩] [0, 4, 5, 6, 7, 9, 10, 63]) (.cond (.tm 63) (.seq (.reg [⟨some 64, none, .ld true 3 false, [.tm 5]⟩, ⟨none, none, .st 3, [.tm 4, .tm 64]⟩] [4]) .ret) .skip)) (.seq (.reg [⟨some 13, none, .alloc [.b false, .sl 0 [] true], []⟩, ⟨some 14, none, .alloc [.b false, .sl 0 [] true], []⟩] [0, 4, 5, 6, 7, 9, 10, 13, 14]) (.seq (.seq (.reg [⟨some 65, none, .mv, [.tm 9]⟩, ⟨some 15, none, .mv, [.tm 65]⟩] [0, 4, 5, 6, 7, 9, 10, 13, 14, 15]) (.block 2 (.loop [0, 4, 5, 6, 7, 9, 10, 13, 14, 15] L85_0))) (.seq (.dreg [⟨some 104, none, .ld true 2 false, [.tm 6]⟩, ⟨some 105, none, .ld true 2 false, [.tm 13]⟩, ⟨some 106, none, .call 29, [.tm 104, .tm 105]⟩, ⟨some 107, none, .ld true 2 false, [.tm 7]⟩, ⟨some 108, none, .ld true 2 false, [.tm 14]⟩, ⟨some 109, none, .call 29, [.tm 107, .tm 108]⟩, ⟨some 110, none, .call 128, [.tm 106, .tm 109]⟩, ⟨none, none, .st 3, [.tm 4, .tm 110]⟩] [] [4]) .ret))))))))), [.cell 4 true 3]⟩
theorem of85 : Fn1.of Try.prog 85 ⟨false, [], false⟩ [[0, 3, 4], [0, 3, 4, 5], [0, 3, 4, 5, 6, 7, 8], [0, 3, 4, 5, 6, 7, 32], [4], [0, 3, 4, 5, 6, 7, 9, 10], [0, 3, 4, 5, 6, 7, 9, 10, 34, 35, 36], [0, 3, 4, 5, 6, 7, 9, 10, 34, 35, 36], [0, 3, 4, 5, 6, 7, 9, 10, 34, 35, 36, 37], [0, 3, 4, 5, 6, 7, 9, 10, 11, 12, 34, 35, 36], [0, 3, 4, 5, 6, 7, 9, 10, 11, 12, 34, 35, 36, 45], [0, 3, 4, 5, 6, 7, 9, 10, 11, 12, 34, 35, 36], [0, 3, 4, 5, 6, 7, 9, 10, 11, 34, 35, 36, 55], [0, 3, 4, 5, 6, 7, 9, 10, 34, 35, 36], [0, 3, 4, 5, 6, 7, 9, 10, 34, 35, 36], [0, 4, 5, 6, 7, 9, 10, 63], [4], [0, 4, 5, 6, 7, 9, 10, 13, 14], [0, 4, 5, 6, 7, 9, 10, 13, 14, 15], [0, 4, 5, 6, 7, 9, 10, 13, 14, 15], [0, 4, 5, 6, 7, 9, 10, 13, 14, 15, 68], [0, 4, 5, 6, 7, 9, 10, 13, 14, 15, 16, 17, 18], [0, 4, 5, 6, 7, 9, 10, 13, 14, 15, 16, 17, 82], [4], [0, 4, 5, 6, 7, 9, 10, 13, 14, 15, 16, 17, 92], [0, 4, 5, 6, 7, 9, 10, 13, 14, 15, 17], [0, 4, 5, 6, 7, 9, 10, 13, 14, 15, 17, 102], [0, 4, 5, 6, 7, 9, 10, 13, 14, 15], [0, 4, 5, 6, 7, 9, 10, 13, 14, 15], [4]] = some F85 := by kernel_rfl
/-- spyglass/spylaw1.HorizonBends -/
def F12 : Fn1 := ⟨22, .seq (.reg [⟨some 3, none, .box, [.tm 1]⟩, ⟨some 4, none, .mv, [.cn (.b false)]⟩] [0, 3]) (.seq (.dreg [⟨some 5, none, .call 81, []⟩, ⟨some 6, none, .mv, [.tm 5]⟩, ⟨some 7, some (6, true), .mv, [.tm 0]⟩, ⟨some 8, some (6, true), .call 82, [.tm 7]⟩, ⟨some 9, some (6, true), .mv, [.tm 0]⟩, ⟨some 10, some (6, true), .call 83, [.tm 9]⟩, ⟨some 11, some (6, true), .po (.bin .eql), [.tm 8, .tm 10]⟩, ⟨some 12, none, .pick, [.tm 6, .tm 11, .cn (.b false)]⟩, ⟨some 13, none, .mv, [.tm 12]⟩, ⟨some 14, some (13, true), .mv, [.tm 0]⟩, ⟨some 15, some (13, true), .ld true 3 false, [.tm 3]⟩, ⟨some 16, some (13, true), .call 84, [.tm 14, .tm 15]⟩, ⟨some 17, some (13, true), .mv, [.tm 0]⟩, ⟨some 18, some (13, true), .ld true 3 false, [.tm 3]⟩, ⟨some 19, some (13, true), .call 85, [.tm 17, .tm 18]⟩, ⟨some 20, some (13, true), .po (.veq false [(0, .n), (1, .n), (2, .b)]), [.tm 16, .tm 19]⟩, ⟨some 21, none, .pick, [.tm 13, .tm 20, .cn (.b false)]⟩, ⟨some 4, none, .mv, [.tm 21]⟩] [] [4]) .ret), [.tm 4]⟩
theorem of12 : Fn1.of Try.prog 12 ⟨false, [], false⟩ [[0, 3], [4]] = some F12 := by kernel_rfl
abbrev BendT := Int × (Int × Int × Bool × Unit) × Unit
abbrev bendC (x : BendT) : List V := [.n .i64 x.1, .n .i64 x.2.1.1, .n .i64 x.2.1.2.1, .b x.2.1.2.2.1]
theorem bendz : ∀ x, (bendC x).length = 4 := fun _ => rfl
def bendE (x : BendT) : Int := bErr x.2.1.1 x.2.1.2.1 x.2.1.2.2.1
def liftB (x : BendT) : Bd := normB x.2.1.1 x.2.1.2.1 x.2.1.2.2.1
def bnd : Option Int → List BendT → Int
  | _, [] => 0
  | p, x :: l => if x.1 < -1073741824 ∨ x.1 > 1073741824 then 4 else if bendE x ≠ 0 then bendE x else if x.1 ≤ p.getD (-4611686018427387904) then 11 else bnd (some x.1) l
def bendsErr (l : List BendT) : Int := if 64 < l.length then 2 else bnd none l
def pr (l : List BendT) : Nat → Option Int
  | 0 => none
  | k + 1 => (l[k]?).map (·.1)
theorem bends1 (l : List BendT) (hl : l.length ≤ 9000000000000000000) : Pure Try.prog 82 [rowV bendC l] (.n .i64 (bendsErr l)) := by
  obtain ⟨r, hr⟩ : ∃ r, r = bendsErr l := ⟨_, rfl⟩
  rw [← hr]
  unfold bendsErr at hr
  refine pure_of_wp of82 (Nat.le_of_ble_eq_true rfl) ?_
  refine DecK.dec (fun h => ?_) (fun h => ?_)
  · rw [if_pos (by omega)] at hr
    subst hr
    ((repeat' first | refine DecK.tt ?_ | refine DecK.ff ?_ | refine DecK.beq (fun _ => ?_) (fun _ => ?_) | refine DecK.bne (fun _ => ?_) (fun _ => ?_) | refine DecK.dec (fun _ => ?_) (fun _ => ?_) | refine OptK.mk _ rfl ?_ | refine endV (by rfl) ?_) <;> (try with_reducible rfl))
  rw [if_neg (by omega)] at hr
  refine loop_ind (fun (i : Int) => ⟨[(0, .v (rowV bendC l)), (9, .v (rowV bendC l)), (10, .v (.n .i64 l.length)), (11, .v (.n .i64 i))], []⟩) (fun i => l.length - i.toNat) (fun i => 0 ≤ i ∧ i ≤ l.length ∧ bnd (pr l i.toNat) (l.drop i.toNat) = r) 0 ⟨by decide, by omega, hr.symm⟩ ?_
  intro iz ⟨h1, h2, h3⟩ ih
  obtain ⟨i, rfl⟩ : ∃ i : Nat, iz = i := ⟨iz.toNat, by omega⟩
  simp only [Int.toNat_natCast] at h3
  refine DecK.dec (fun h => ?_) (fun h => ?_)
  · obtain ⟨x, hx, ex, mx, _⟩ := at_ex' (l := l) (k := i) (by omega)
    have wi : IntKind.i64.wrap ((i : Int) + 1) = ((i + 1 : Nat) : Int) := w64 (by omega)
    rw [ex, bnd] at h3
    refine OptK.mk _ (ria i rfl (by omega)) ?_
    refine OptK.mk _ (rld bendz hx) ?_
    refine OptK.mk _ rfl ?_
    refine CallK.mk _ (checkArc _ _ _) rfl ?_
    rw [show bErr x.2.1.1 x.2.1.2.1 x.2.1.2.2.1 = bendE x from rfl]
    refine DecK.dec (fun g1 => ?_) (fun g1 => ?_)
    · rw [if_pos (.inl g1)] at h3
      subst h3
      repeat' (refine DecK.tt ?_)
      ((repeat' first | refine DecK.tt ?_ | refine DecK.ff ?_ | refine DecK.beq (fun _ => ?_) (fun _ => ?_) | refine DecK.bne (fun _ => ?_) (fun _ => ?_) | refine DecK.dec (fun _ => ?_) (fun _ => ?_) | refine OptK.mk _ rfl ?_ | refine endV (by rfl) ?_) <;> (try with_reducible rfl))
    refine DecK.dec (fun g2 => ?_) (fun g2 => ?_)
    · rw [if_pos (.inr g2)] at h3
      subst h3
      ((repeat' first | refine DecK.tt ?_ | refine DecK.ff ?_ | refine DecK.beq (fun _ => ?_) (fun _ => ?_) | refine DecK.bne (fun _ => ?_) (fun _ => ?_) | refine DecK.dec (fun _ => ?_) (fun _ => ?_) | refine OptK.mk _ rfl ?_ | refine endV (by rfl) ?_) <;> (try with_reducible rfl))
    rw [if_neg (by omega)] at h3
    refine DecK.bne (fun g3 => ?_) (fun g3 => ?_)
    · rw [if_pos g3] at h3
      subst h3
      ((repeat' first | refine DecK.tt ?_ | refine DecK.ff ?_ | refine DecK.beq (fun _ => ?_) (fun _ => ?_) | refine DecK.bne (fun _ => ?_) (fun _ => ?_) | refine DecK.dec (fun _ => ?_) (fun _ => ?_) | refine OptK.mk _ rfl ?_ | refine endV (by rfl) ?_) <;> (try with_reducible rfl))
    rw [if_neg (by simpa using g3)] at h3
    cases i with
    | zero =>
      rw [if_neg (by simp only [pr, Option.getD_none]; omega)] at h3
      refine DecK.no rfl ?_
      refine DecK.ff ?_
      refine loop_eq (by rw [wi] <;> rfl) (ih _ ⟨by omega, by omega, by simp only [Int.toNat_natCast, pr, hx, Option.map_some]; exact h3⟩ (by simp only [Int.toNat_natCast]; omega))
    | succ k =>
      obtain ⟨y, hy, _, _, _⟩ := at_ex' (l := l) (k := k) (by omega)
      have wk : IntKind.i64.wrap (((k + 1 : Nat) : Int) - 1) = (k : Int) := by rw [w64 (by omega)]; omega
      simp only [pr, hy, Option.map_some, Option.getD_some] at h3
      refine DecK.yes (decide_eq_true (by omega)) ?_
      refine OptK.mk _ (ria k wk (by omega)) ?_
      refine OptK.mk _ (rfld bendz hy (off := 0) rfl) ?_
      refine DecK.dec (fun g4 => ?_) (fun g4 => ?_)
      · rw [if_pos g4] at h3
        subst h3
        ((repeat' first | refine DecK.tt ?_ | refine DecK.ff ?_ | refine DecK.beq (fun _ => ?_) (fun _ => ?_) | refine DecK.bne (fun _ => ?_) (fun _ => ?_) | refine DecK.dec (fun _ => ?_) (fun _ => ?_) | refine OptK.mk _ rfl ?_ | refine endV (by rfl) ?_) <;> (try with_reducible rfl))
      · rw [if_neg g4] at h3
        refine loop_eq (by rw [wi] <;> rfl) (ih _ ⟨by omega, by omega, by simp only [Int.toNat_natCast, pr, hx, Option.map_some]; exact h3⟩ (by simp only [Int.toNat_natCast]; omega))
  · rw [List.drop_eq_nil_of_le (by omega)] at h3
    subst h3
    ((repeat' first | refine DecK.tt ?_ | refine DecK.ff ?_ | refine DecK.beq (fun _ => ?_) (fun _ => ?_) | refine DecK.bne (fun _ => ?_) (fun _ => ?_) | refine DecK.dec (fun _ => ?_) (fun _ => ?_) | refine OptK.mk _ rfl ?_ | refine endV (by rfl) ?_) <;> (try with_reducible rfl))
    rfl
theorem bends2 (l : List BendT) (hl : l.length ≤ 9000000000000000000) : Pure Try.prog 83 [rowV bendC l] (.n .i64 (bendsErr l)) := by
  obtain ⟨r, hr⟩ : ∃ r, r = bendsErr l := ⟨_, rfl⟩
  rw [← hr]
  unfold bendsErr at hr
  refine pure_of_wp of83 (Nat.le_of_ble_eq_true rfl) ?_
  refine DecK.dec (fun h => ?_) (fun h => ?_)
  · rw [if_pos (by omega)] at hr
    subst hr
    ((repeat' first | refine DecK.tt ?_ | refine DecK.ff ?_ | refine DecK.beq (fun _ => ?_) (fun _ => ?_) | refine DecK.bne (fun _ => ?_) (fun _ => ?_) | refine DecK.dec (fun _ => ?_) (fun _ => ?_) | refine OptK.mk _ rfl ?_ | refine endV (by rfl) ?_) <;> (try with_reducible rfl))
  rw [if_neg (by omega)] at hr
  refine loop_ind (fun (i : Int) => ⟨[(0, .v (rowV bendC l)), (9, .v (rowV bendC l)), (10, .v (.n .i64 l.length)), (11, .v (.n .i64 i))], []⟩) (fun i => l.length - i.toNat) (fun i => 0 ≤ i ∧ i ≤ l.length ∧ bnd (pr l i.toNat) (l.drop i.toNat) = r) 0 ⟨by decide, by omega, hr.symm⟩ ?_
  intro iz ⟨h1, h2, h3⟩ ih
  obtain ⟨i, rfl⟩ : ∃ i : Nat, iz = i := ⟨iz.toNat, by omega⟩
  simp only [Int.toNat_natCast] at h3
  refine DecK.dec (fun h => ?_) (fun h => ?_)
  · obtain ⟨x, hx, ex, mx, _⟩ := at_ex' (l := l) (k := i) (by omega)
    have wi : IntKind.i64.wrap ((i : Int) + 1) = ((i + 1 : Nat) : Int) := w64 (by omega)
    rw [ex, bnd] at h3
    refine OptK.mk _ (ria i rfl (by omega)) ?_
    refine OptK.mk _ (rld bendz hx) ?_
    refine OptK.mk _ rfl ?_
    refine DecK.dec (fun g1 => ?_) (fun g1 => ?_)
    · rw [if_pos (.inr g1)] at h3
      subst h3
      repeat' (refine DecK.tt ?_)
      ((repeat' first | refine DecK.tt ?_ | refine DecK.ff ?_ | refine DecK.beq (fun _ => ?_) (fun _ => ?_) | refine DecK.bne (fun _ => ?_) (fun _ => ?_) | refine DecK.dec (fun _ => ?_) (fun _ => ?_) | refine OptK.mk _ rfl ?_ | refine endV (by rfl) ?_) <;> (try with_reducible rfl))
    refine DecK.dec (fun g2 => ?_) (fun g2 => ?_)
    · rw [if_pos (.inl g2)] at h3
      subst h3
      ((repeat' first | refine DecK.tt ?_ | refine DecK.ff ?_ | refine DecK.beq (fun _ => ?_) (fun _ => ?_) | refine DecK.bne (fun _ => ?_) (fun _ => ?_) | refine DecK.dec (fun _ => ?_) (fun _ => ?_) | refine OptK.mk _ rfl ?_ | refine endV (by rfl) ?_) <;> (try with_reducible rfl))
    rw [if_neg (by omega)] at h3
    refine CallK.mk _ (boundErrArc _ _ _) rfl ?_
    rw [show bErr x.2.1.1 x.2.1.2.1 x.2.1.2.2.1 = bendE x from rfl]
    refine DecK.bne (fun g3 => ?_) (fun g3 => ?_)
    · rw [if_pos g3] at h3
      subst h3
      ((repeat' first | refine DecK.tt ?_ | refine DecK.ff ?_ | refine DecK.beq (fun _ => ?_) (fun _ => ?_) | refine DecK.bne (fun _ => ?_) (fun _ => ?_) | refine DecK.dec (fun _ => ?_) (fun _ => ?_) | refine OptK.mk _ rfl ?_ | refine endV (by rfl) ?_) <;> (try with_reducible rfl))
    rw [if_neg (by simpa using g3)] at h3
    cases i with
    | zero =>
      rw [if_neg (by simp only [pr, Option.getD_none]; omega)] at h3
      refine DecK.no rfl ?_
      refine DecK.ff ?_
      refine loop_eq (by rw [wi] <;> rfl) (ih _ ⟨by omega, by omega, by simp only [Int.toNat_natCast, pr, hx, Option.map_some]; exact h3⟩ (by simp only [Int.toNat_natCast]; omega))
    | succ k =>
      obtain ⟨y, hy, _, _, _⟩ := at_ex' (l := l) (k := k) (by omega)
      have wk : IntKind.i64.wrap (((k + 1 : Nat) : Int) - 1) = (k : Int) := by rw [w64 (by omega)]; omega
      simp only [pr, hy, Option.map_some, Option.getD_some] at h3
      refine DecK.yes (decide_eq_true (by omega)) ?_
      refine OptK.mk _ (ria k wk (by omega)) ?_
      refine OptK.mk _ (rfld bendz hy (off := 0) rfl) ?_
      refine DecK.dec (fun g4 => ?_) (fun g4 => ?_)
      · rw [if_pos g4] at h3
        subst h3
        ((repeat' first | refine DecK.tt ?_ | refine DecK.ff ?_ | refine DecK.beq (fun _ => ?_) (fun _ => ?_) | refine DecK.bne (fun _ => ?_) (fun _ => ?_) | refine DecK.dec (fun _ => ?_) (fun _ => ?_) | refine OptK.mk _ rfl ?_ | refine endV (by rfl) ?_) <;> (try with_reducible rfl))
      · rw [if_neg (by omega)] at h3
        refine loop_eq (by rw [wi] <;> rfl) (ih _ ⟨by omega, by omega, by simp only [Int.toNat_natCast, pr, hx, Option.map_some]; exact h3⟩ (by simp only [Int.toNat_natCast]; omega))
  · rw [List.drop_eq_nil_of_le (by omega)] at h3
    subst h3
    ((repeat' first | refine DecK.tt ?_ | refine DecK.ff ?_ | refine DecK.beq (fun _ => ?_) (fun _ => ?_) | refine DecK.bne (fun _ => ?_) (fun _ => ?_) | refine DecK.dec (fun _ => ?_) (fun _ => ?_) | refine OptK.mk _ rfl ?_ | refine endV (by rfl) ?_) <;> (try with_reducible rfl))
    rfl
end Go.Proofs.Ytpggblmopgfloaa.Sv

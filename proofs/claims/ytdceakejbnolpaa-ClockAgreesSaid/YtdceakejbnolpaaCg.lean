/- Clocks that are asked together. No condition. -/
import Derived.Test.YtdceakejbnolpaaCd
import Derived.Test.YtdceakejbnolpaaBhTick
namespace Go.Proofs.Ytdceakejbnolpaa.Sv
open Go Go.RowKit
set_option linter.unusedVariables false
set_option linter.unusedSimpArgs false
set_option maxRecDepth 100000
/-- live: [1, 2, 6, 8, 24, 25, 26] -/
def L54_0 : SC := .seq (.reg [⟨some 27, none, .po (.bin .lss), [.tm 26, .tm 25]⟩] [1, 2, 6, 8, 24, 25, 26, 27]) (.seq (.cond (.tm 27) .skip (.exit 1)) (.seq (.block 2 (.seq (.reg [⟨some 28, none, .mv, [.tm 26]⟩, ⟨some 29, none, .ia none 5, [.tm 24, .tm 26]⟩, ⟨some 30, none, .ld true 5 true, [.tm 29]⟩, ⟨some 10, none, .alloc [.n .i64 0, .n .i64 0, .n .i64 0, .b false, .n .i64 0], []⟩, ⟨some 9, none, .mv, [.tm 28]⟩, ⟨none, none, .st 5, [.tm 10, .tm 30]⟩] [1, 2, 6, 8, 9, 10, 24, 25, 26]) (.seq (.seq (.reg [⟨some 31, none, .ld true 5 false, [.tm 10]⟩, ⟨some 32, none, .call 75, [.tm 31]⟩, ⟨some 11, none, .mv, [.tm 32]⟩] [1, 2, 6, 8, 9, 10, 11, 24, 25, 26]) (.seq (.reg [⟨some 33, none, .mv, [.tm 11]⟩, ⟨some 34, none, .po (.bin .neq), [.tm 33, .cn (.n .i64 0)]⟩] [1, 2, 6, 8, 9, 10, 11, 24, 25, 26, 34]) (.cond (.tm 34) (.seq (.reg [⟨some 35, none, .po (.build [.n .i64 0, .n .i64 0, .b false] []), []⟩, ⟨some 36, none, .mv, [.tm 11]⟩, ⟨none, none, .st 3, [.tm 6, .tm 35]⟩, ⟨some 7, none, .mv, [.tm 36]⟩] [6, 7]) .ret) .skip))) (.dreg [⟨some 37, none, .mv, [.tm 8]⟩, ⟨some 38, none, .ld true 5 false, [.tm 10]⟩, ⟨some 39, none, .mv, [.tm 1]⟩, ⟨some 40, none, .mv, [.tm 9]⟩, ⟨some 41, none, .ia none 1, [.tm 39, .tm 40]⟩, ⟨some 42, none, .ld false 1 true, [.tm 41]⟩, ⟨some 43, none, .call 74, [.tm 38, .tm 42]⟩, ⟨some 44, none, .po (.bsl 1 [.n .i64 0, .n .i64 0, .b false] [(0, 3)]), [.tm 43]⟩, ⟨some 45, none, .app 3 24, [.tm 37, .tm 44]⟩, ⟨some 8, none, .mv, [.tm 45]⟩] [] [1, 2, 6, 8, 24, 25, 26])))) (.reg [⟨some 46, none, .po (.bin .add), [.tm 26, .cn (.n .i64 1)]⟩, ⟨some 26, none, .mv, [.tm 46]⟩] [1, 2, 6, 8, 24, 25, 26])))
/-- spyglass/clock.Agree -/
def F54 : Fn1 := ⟨50, .seq (.reg [⟨some 6, none, .alloc [.n .i64 0, .n .i64 0, .b false], []⟩, ⟨some 7, none, .mv, [.cn (.n .i64 0)]⟩] [0, 1, 2, 6]) (.seq (.block 0 (.seq (.reg [⟨some 13, none, .mv, [.tm 0]⟩, ⟨some 14, none, .len false, [.tm 13]⟩, ⟨some 15, none, .po (.bin .gtr), [.tm 14, .cn (.n .i64 64)]⟩, ⟨some 12, none, .mv, [.tm 15]⟩] [0, 1, 2, 6, 12]) (.cond (.tm 12) (.seq (.reg [⟨some 16, none, .po (.build [.n .i64 0, .n .i64 0, .b false] []), []⟩, ⟨none, none, .st 3, [.tm 6, .tm 16]⟩, ⟨some 7, none, .mv, [.cn (.n .i64 2)]⟩] [6, 7]) .ret) (.seq (.reg [⟨some 18, none, .mv, [.tm 1]⟩, ⟨some 19, none, .len false, [.tm 18]⟩, ⟨some 20, none, .mv, [.tm 0]⟩, ⟨some 21, none, .len false, [.tm 20]⟩, ⟨some 22, none, .po (.bin .neq), [.tm 19, .tm 21]⟩, ⟨some 17, none, .mv, [.tm 22]⟩] [0, 1, 2, 6, 17]) (.cond (.tm 17) (.seq (.reg [⟨some 23, none, .po (.build [.n .i64 0, .n .i64 0, .b false] []), []⟩, ⟨none, none, .st 3, [.tm 6, .tm 23]⟩, ⟨some 7, none, .mv, [.cn (.n .i64 14)]⟩] [6, 7]) .ret) .skip))))) (.seq (.reg [⟨some 8, none, .adopt 3, []⟩] [0, 1, 2, 6, 8]) (.seq (.seq (.reg [⟨some 24, none, .mv, [.tm 0]⟩, ⟨some 25, none, .len false, [.tm 24]⟩, ⟨some 26, none, .mv, [.cn (.n .i64 0)]⟩] [1, 2, 6, 8, 24, 25, 26]) (.block 1 (.loop [1, 2, 6, 8, 24, 25, 26] L54_0))) (.seq (.reg [⟨some 47, none, .mv, [.tm 8]⟩, ⟨some 48, none, .mv, [.tm 2]⟩, ⟨some 49, none, .call 119, [.tm 47, .tm 48]⟩, ⟨none, none, .st 3, [.tm 6, .tm 49]⟩, ⟨some 7, none, .mv, [.cn (.n .i64 0)]⟩] [6, 7]) .ret)))), [.cell 6 true 3, .tm 7]⟩
theorem of54 : Fn1.of Try.prog 54 ⟨true, [], true⟩ [[0, 1, 2, 6], [0, 1, 2, 6, 12], [6, 7], [0, 1, 2, 6, 17], [6, 7], [0, 1, 2, 6, 8], [1, 2, 6, 8, 24, 25, 26], [1, 2, 6, 8, 24, 25, 26], [1, 2, 6, 8, 24, 25, 26, 27], [1, 2, 6, 8, 9, 10, 24, 25, 26], [1, 2, 6, 8, 9, 10, 11, 24, 25, 26], [1, 2, 6, 8, 9, 10, 11, 24, 25, 26, 34], [6, 7], [1, 2, 6, 8, 24, 25, 26], [1, 2, 6, 8, 24, 25, 26], [6, 7]] = some F54 := by kernel_rfl
/-- live: [2, 6, 8, 9, 14, 67, 68, 69, 77, 78, 79] -/
def L55_0 : SC := .seq (.reg [⟨some 80, none, .po (.bin .lss), [.tm 79, .tm 78]⟩] [2, 6, 8, 9, 14, 67, 68, 69, 77, 78, 79, 80]) (.seq (.cond (.tm 80) .skip (.exit 4)) (.seq (.block 5 (.seq (.reg [⟨some 81, none, .ia none 1, [.tm 77, .tm 79]⟩, ⟨some 82, none, .ld false 1 true, [.tm 81]⟩, ⟨some 18, none, .mv, [.tm 82]⟩] [2, 6, 8, 9, 14, 18, 67, 68, 69, 77, 78, 79]) (.seq (.seq (.reg [⟨some 83, none, .mv, [.tm 9]⟩, ⟨some 84, none, .mv, [.tm 18]⟩, ⟨some 85, none, .call 120, [.tm 83, .tm 84]⟩, ⟨some 86, none, .mv, [.tm 8]⟩, ⟨some 87, none, .mv, [.tm 2]⟩, ⟨some 88, none, .po (.bin .sub), [.tm 86, .tm 87]⟩, ⟨some 89, none, .po (.bin .lss), [.tm 85, .tm 88]⟩] [2, 6, 8, 9, 14, 18, 67, 68, 69, 77, 78, 79, 89]) (.cond (.tm 89) (.exit 5) .skip)) (.seq (.seq (.reg [⟨some 90, none, .fa 2, [.tm 14]⟩, ⟨some 91, none, .ld false 1 false, [.tm 90]⟩] [2, 6, 8, 9, 14, 18, 67, 68, 69, 77, 78, 79, 91]) (.cond (.tm 91) (.reg [⟨some 92, none, .mv, [.tm 18]⟩, ⟨some 93, none, .mv, [.tm 18]⟩, ⟨some 94, none, .po (.build [.n .i64 0, .n .i64 0, .b false] [(0, 1), (1, 1)]), [.tm 92, .tm 93]⟩, ⟨none, none, .st 3, [.tm 14, .tm 94]⟩] [2, 6, 8, 9, 14, 18, 67, 68, 69, 77, 78, 79]) .skip)) (.reg [⟨some 95, none, .fa 0, [.tm 14]⟩, ⟨some 96, none, .ld false 1 false, [.tm 95]⟩, ⟨some 97, none, .mv, [.tm 18]⟩, ⟨some 98, none, .po .mn, [.tm 96, .tm 97]⟩, ⟨some 99, none, .fa 1, [.tm 14]⟩, ⟨some 100, none, .ld false 1 false, [.tm 99]⟩, ⟨some 101, none, .mv, [.tm 18]⟩, ⟨some 102, none, .po .mx, [.tm 100, .tm 101]⟩, ⟨some 103, none, .fa 0, [.tm 14]⟩, ⟨none, none, .st 1, [.tm 103, .tm 98]⟩, ⟨some 104, none, .fa 1, [.tm 14]⟩, ⟨none, none, .st 1, [.tm 104, .tm 102]⟩] [2, 6, 8, 9, 14, 67, 68, 69, 77, 78, 79]))))) (.reg [⟨some 105, none, .po (.bin .add), [.tm 79, .cn (.n .i64 1)]⟩, ⟨some 79, none, .mv, [.tm 105]⟩] [2, 6, 8, 9, 14, 67, 68, 69, 77, 78, 79])))
/-- live: [2, 6, 8, 9, 14, 67, 68, 69] -/
def L55_1 : SC := .seq (.reg [⟨some 70, none, .po (.bin .lss), [.tm 69, .tm 68]⟩] [2, 6, 8, 9, 14, 67, 68, 69, 70]) (.seq (.cond (.tm 70) .skip (.exit 2)) (.seq (.block 3 (.seq (.reg [⟨some 71, none, .ia none 3, [.tm 67, .tm 69]⟩, ⟨some 72, none, .ld true 3 true, [.tm 71]⟩, ⟨some 16, none, .alloc [.n .i64 0, .n .i64 0, .b false], []⟩, ⟨none, none, .st 3, [.tm 16, .tm 72]⟩] [2, 6, 8, 9, 14, 16, 67, 68, 69]) (.seq (.reg [⟨some 73, none, .fa 0, [.tm 16]⟩, ⟨some 74, none, .ld false 1 false, [.tm 73]⟩, ⟨some 75, none, .fa 1, [.tm 16]⟩, ⟨some 76, none, .ld false 1 false, [.tm 75]⟩, ⟨some 77, none, .po (.bsl 2 [.n .i64 0] [(0, 1), (1, 1)]), [.tm 74, .tm 76]⟩, ⟨some 78, none, .len false, [.tm 77]⟩, ⟨some 79, none, .mv, [.cn (.n .i64 0)]⟩] [2, 6, 8, 9, 14, 67, 68, 69, 77, 78, 79]) (.block 4 (.loop [2, 6, 8, 9, 14, 67, 68, 69, 77, 78, 79] L55_0))))) (.reg [⟨some 106, none, .po (.bin .add), [.tm 69, .cn (.n .i64 1)]⟩, ⟨some 69, none, .mv, [.tm 106]⟩] [2, 6, 8, 9, 14, 67, 68, 69])))
/-- live: [1, 2, 6, 8, 9, 29, 30, 31] -/
def L55_2 : SC := .seq (.reg [⟨some 32, none, .po (.bin .lss), [.tm 31, .tm 30]⟩] [1, 2, 6, 8, 9, 29, 30, 31, 32]) (.seq (.cond (.tm 32) .skip (.exit 0)) (.seq (.block 1 (.seq (.reg [⟨some 33, none, .mv, [.tm 31]⟩, ⟨some 34, none, .ia none 5, [.tm 29, .tm 31]⟩, ⟨some 35, none, .ld true 5 true, [.tm 34]⟩, ⟨some 11, none, .alloc [.n .i64 0, .n .i64 0, .n .i64 0, .b false, .n .i64 0], []⟩, ⟨some 10, none, .mv, [.tm 33]⟩, ⟨none, none, .st 5, [.tm 11, .tm 35]⟩] [1, 2, 6, 8, 9, 10, 11, 29, 30, 31]) (.seq (.seq (.reg [⟨some 36, none, .ld true 5 false, [.tm 11]⟩, ⟨some 37, none, .call 80, [.tm 36]⟩, ⟨some 12, none, .mv, [.tm 37]⟩] [1, 2, 6, 8, 9, 10, 11, 12, 29, 30, 31]) (.seq (.reg [⟨some 38, none, .mv, [.tm 12]⟩, ⟨some 39, none, .po (.bin .neq), [.tm 38, .cn (.n .i64 0)]⟩] [1, 2, 6, 8, 9, 10, 11, 12, 29, 30, 31, 39]) (.cond (.tm 39) (.seq (.reg [⟨some 40, none, .po (.build [.n .i64 0, .n .i64 0, .b false] []), []⟩, ⟨some 41, none, .mv, [.tm 12]⟩, ⟨none, none, .st 3, [.tm 6, .tm 40]⟩, ⟨some 7, none, .mv, [.tm 41]⟩] [6, 7]) .ret) .skip))) (.seq (.dreg [⟨some 42, none, .ld true 5 false, [.tm 11]⟩, ⟨some 43, none, .mv, [.tm 1]⟩, ⟨some 44, none, .mv, [.tm 10]⟩, ⟨some 45, none, .ia none 1, [.tm 43, .tm 44]⟩, ⟨some 46, none, .ld false 1 true, [.tm 45]⟩, ⟨some 47, none, .call 81, [.tm 42, .tm 46]⟩, ⟨some 13, none, .alloc [.n .i64 0, .n .i64 0, .b false], []⟩, ⟨none, none, .st 3, [.tm 13, .tm 47]⟩] [] [1, 2, 6, 8, 9, 13, 29, 30, 31]) (.seq (.reg [⟨some 48, none, .fa 2, [.tm 13]⟩, ⟨some 49, none, .ld false 1 false, [.tm 48]⟩, ⟨some 50, none, .po (.un .not), [.tm 49]⟩] [1, 2, 6, 8, 9, 13, 29, 30, 31, 50]) (.cond (.tm 50) (.reg [⟨some 51, none, .mv, [.tm 9]⟩, ⟨some 52, none, .ld true 3 false, [.tm 13]⟩, ⟨some 53, none, .po (.bsl 1 [.n .i64 0, .n .i64 0, .b false] [(0, 3)]), [.tm 52]⟩, ⟨some 54, none, .app 3 24, [.tm 51, .tm 53]⟩, ⟨some 55, none, .mv, [.tm 8]⟩, ⟨some 56, none, .po (.bin .add), [.tm 55, .cn (.n .i64 1)]⟩, ⟨some 9, none, .mv, [.tm 54]⟩, ⟨some 8, none, .mv, [.tm 56]⟩] [1, 2, 6, 8, 9, 29, 30, 31]) .skip)))))) (.reg [⟨some 57, none, .po (.bin .add), [.tm 31, .cn (.n .i64 1)]⟩, ⟨some 31, none, .mv, [.tm 57]⟩] [1, 2, 6, 8, 9, 29, 30, 31])))
/-- spyglass/spyref1.Agreed -/
def F55 : Fn1 := ⟨108, .seq (.reg [⟨some 6, none, .alloc [.n .i64 0, .n .i64 0, .b false], []⟩, ⟨some 7, none, .mv, [.cn (.n .i64 0)]⟩] [0, 1, 2, 6]) (.seq (.seq (.reg [⟨some 19, none, .mv, [.tm 0]⟩, ⟨some 20, none, .len false, [.tm 19]⟩, ⟨some 21, none, .po (.bin .gtr), [.tm 20, .cn (.n .i64 64)]⟩] [0, 1, 2, 6, 21]) (.cond (.tm 21) (.seq (.reg [⟨some 22, none, .po (.build [.n .i64 0, .n .i64 0, .b false] []), []⟩, ⟨none, none, .st 3, [.tm 6, .tm 22]⟩, ⟨some 7, none, .mv, [.cn (.n .i64 2)]⟩] [6, 7]) .ret) .skip)) (.seq (.seq (.reg [⟨some 23, none, .mv, [.tm 1]⟩, ⟨some 24, none, .len false, [.tm 23]⟩, ⟨some 25, none, .mv, [.tm 0]⟩, ⟨some 26, none, .len false, [.tm 25]⟩, ⟨some 27, none, .po (.bin .neq), [.tm 24, .tm 26]⟩] [0, 1, 2, 6, 27]) (.cond (.tm 27) (.seq (.reg [⟨some 28, none, .po (.build [.n .i64 0, .n .i64 0, .b false] []), []⟩, ⟨none, none, .st 3, [.tm 6, .tm 28]⟩, ⟨some 7, none, .mv, [.cn (.n .i64 14)]⟩] [6, 7]) .ret) .skip)) (.seq (.reg [⟨some 8, none, .mv, [.cn (.n .i64 0)]⟩] [0, 1, 2, 6, 8]) (.seq (.reg [⟨some 9, none, .adopt 3, []⟩] [0, 1, 2, 6, 8, 9]) (.seq (.seq (.reg [⟨some 29, none, .mv, [.tm 0]⟩, ⟨some 30, none, .len false, [.tm 29]⟩, ⟨some 31, none, .mv, [.cn (.n .i64 0)]⟩] [1, 2, 6, 8, 9, 29, 30, 31]) (.block 0 (.loop [1, 2, 6, 8, 9, 29, 30, 31] L55_2))) (.seq (.reg [⟨some 58, none, .po (.build [.n .i64 0, .n .i64 0, .b false] [(2, 1)]), [.cn (.b true)]⟩, ⟨some 14, none, .alloc [.n .i64 0, .n .i64 0, .b false], []⟩, ⟨none, none, .st 3, [.tm 14, .tm 58]⟩] [2, 6, 8, 9, 14]) (.seq (.seq (.reg [⟨some 59, none, .mv, [.tm 2]⟩, ⟨some 60, none, .po (.bin .lss), [.tm 59, .cn (.n .i64 0)]⟩, ⟨some 61, none, .mv, [.tm 60]⟩, ⟨some 62, some (61, false), .mv, [.tm 8]⟩, ⟨some 63, some (61, false), .mv, [.tm 2]⟩, ⟨some 64, some (61, false), .po (.bin .leq), [.tm 62, .tm 63]⟩, ⟨some 65, none, .pick, [.tm 61, .cn (.b true), .tm 64]⟩] [2, 6, 8, 9, 14, 65]) (.cond (.tm 65) (.seq (.reg [⟨some 66, none, .ld true 3 false, [.tm 14]⟩, ⟨none, none, .st 3, [.tm 6, .tm 66]⟩, ⟨some 7, none, .mv, [.cn (.n .i64 0)]⟩] [6, 7]) .ret) .skip)) (.seq (.seq (.reg [⟨some 67, none, .mv, [.tm 9]⟩, ⟨some 68, none, .len false, [.tm 67]⟩, ⟨some 69, none, .mv, [.cn (.n .i64 0)]⟩] [2, 6, 8, 9, 14, 67, 68, 69]) (.block 2 (.loop [2, 6, 8, 9, 14, 67, 68, 69] L55_1))) (.seq (.reg [⟨some 107, none, .ld true 3 false, [.tm 14]⟩, ⟨none, none, .st 3, [.tm 6, .tm 107]⟩, ⟨some 7, none, .mv, [.cn (.n .i64 0)]⟩] [6, 7]) .ret))))))))), [.cell 6 true 3, .tm 7]⟩
theorem of55 : Fn1.of Try.prog 55 ⟨true, [], false⟩ [[0, 1, 2, 6], [0, 1, 2, 6, 21], [6, 7], [0, 1, 2, 6, 27], [6, 7], [0, 1, 2, 6, 8], [0, 1, 2, 6, 8, 9], [1, 2, 6, 8, 9, 29, 30, 31], [1, 2, 6, 8, 9, 29, 30, 31], [1, 2, 6, 8, 9, 29, 30, 31, 32], [1, 2, 6, 8, 9, 10, 11, 29, 30, 31], [1, 2, 6, 8, 9, 10, 11, 12, 29, 30, 31], [1, 2, 6, 8, 9, 10, 11, 12, 29, 30, 31, 39], [6, 7], [1, 2, 6, 8, 9, 13, 29, 30, 31], [1, 2, 6, 8, 9, 13, 29, 30, 31, 50], [1, 2, 6, 8, 9, 29, 30, 31], [1, 2, 6, 8, 9, 29, 30, 31], [2, 6, 8, 9, 14], [2, 6, 8, 9, 14, 65], [6, 7], [2, 6, 8, 9, 14, 67, 68, 69], [2, 6, 8, 9, 14, 67, 68, 69], [2, 6, 8, 9, 14, 67, 68, 69, 70], [2, 6, 8, 9, 14, 16, 67, 68, 69], [2, 6, 8, 9, 14, 67, 68, 69, 77, 78, 79], [2, 6, 8, 9, 14, 67, 68, 69, 77, 78, 79], [2, 6, 8, 9, 14, 67, 68, 69, 77, 78, 79, 80], [2, 6, 8, 9, 14, 18, 67, 68, 69, 77, 78, 79], [2, 6, 8, 9, 14, 18, 67, 68, 69, 77, 78, 79, 89], [2, 6, 8, 9, 14, 18, 67, 68, 69, 77, 78, 79, 91], [2, 6, 8, 9, 14, 18, 67, 68, 69, 77, 78, 79], [2, 6, 8, 9, 14, 67, 68, 69, 77, 78, 79], [2, 6, 8, 9, 14, 67, 68, 69, 77, 78, 79], [2, 6, 8, 9, 14, 67, 68, 69], [6, 7]] = some F55 := by kernel_rfl
/-- spyglass/spylaw1.ClockAgrees -/
def F12 : Fn1 := ⟨36, .seq (.reg [⟨some 6, none, .mv, [.cn (.b false)]⟩] [0, 1, 2]) (.seq (.reg [⟨some 12, none, .mv, [.tm 0]⟩, ⟨some 13, none, .mv, [.tm 1]⟩, ⟨some 14, none, .mv, [.tm 2]⟩, ⟨some 15, none, .call 54, [.tm 12, .tm 13, .tm 14]⟩, ⟨some 11, none, .mv, [.tm 15]⟩, ⟨some 16, none, .po (.ext 0), [.tm 11]⟩, ⟨some 17, none, .po (.ext 1), [.tm 11]⟩, ⟨some 7, none, .alloc [.n .i64 0, .n .i64 0, .b false], []⟩, ⟨none, none, .st 3, [.tm 7, .tm 16]⟩, ⟨some 8, none, .mv, [.tm 17]⟩] [0, 1, 2, 7, 8]) (.seq (.reg [⟨some 19, none, .mv, [.tm 0]⟩, ⟨some 20, none, .mv, [.tm 1]⟩, ⟨some 21, none, .mv, [.tm 2]⟩, ⟨some 22, none, .call 55, [.tm 19, .tm 20, .tm 21]⟩, ⟨some 18, none, .mv, [.tm 22]⟩, ⟨some 23, none, .po (.ext 0), [.tm 18]⟩, ⟨some 24, none, .po (.ext 1), [.tm 18]⟩, ⟨some 9, none, .alloc [.n .i64 0, .n .i64 0, .b false], []⟩, ⟨none, none, .st 3, [.tm 9, .tm 23]⟩, ⟨some 10, none, .mv, [.tm 24]⟩] [7, 8, 9, 10]) (.seq (.reg [⟨some 25, none, .call 32, []⟩, ⟨some 26, none, .mv, [.tm 25]⟩, ⟨some 27, some (26, true), .ld true 3 false, [.tm 7]⟩, ⟨some 28, some (26, true), .ld true 3 false, [.tm 9]⟩, ⟨some 29, some (26, true), .po (.veq false [(0, .n), (1, .n), (2, .b)]), [.tm 27, .tm 28]⟩, ⟨some 30, none, .pick, [.tm 26, .tm 29, .cn (.b false)]⟩, ⟨some 31, none, .mv, [.tm 30]⟩, ⟨some 32, some (31, true), .mv, [.tm 8]⟩, ⟨some 33, some (31, true), .mv, [.tm 10]⟩, ⟨some 34, some (31, true), .po (.bin .eql), [.tm 32, .tm 33]⟩, ⟨some 35, none, .pick, [.tm 31, .tm 34, .cn (.b false)]⟩, ⟨some 6, none, .mv, [.tm 35]⟩] [6]) .ret))), [.tm 6]⟩
theorem of12 : Fn1.of Try.prog 12 ⟨false, [], false⟩ [[0, 1, 2], [0, 1, 2, 7, 8], [7, 8, 9, 10], [6]] = some F12 := by kernel_rfl
abbrev ClkT := Int × BdT × Int × Unit
@[reducible] def clkT (x : ClkT) : List V := [.n .i64 x.1, .n .i64 x.2.1.1, .n .i64 x.2.1.2.1, .b x.2.1.2.2.1, .n .i64 x.2.2.1]
theorem clkz : ∀ x, (clkT x).length = 5 := fun _ => rfl
def clkE (x : ClkT) : Int := clkErr x.1 x.2.1.1 x.2.1.2.1 x.2.1.2.2.1 x.2.2.1
def clkU (x : ClkT) (t : Int) : Bd := uniB x.1 x.2.1.1 x.2.1.2.1 x.2.1.2.2.1 x.2.2.1 t
def clksE : List ClkT → Int
  | [] => 0
  | x :: l => if clkE x ≠ 0 then clkE x else clksE l
def agErr (l : List ClkT) (sh : List Int) : Int := if l.length > 64 then 2 else if sh.length ≠ l.length then 14 else clksE l
def unis (l : List ClkT) (sh : List Int) : List Bd := List.zipWith clkU l sh
def agB (l : List ClkT) (sh : List Int) (f : Int) : Bd := if agErr l sh = 0 then fuseF (unis l sh) f else some (0, 0)
def encT (x : Bd) : BdT := (bLo x, bHi x, bUn x, ())
theorem nrm_enc {x : Bd} (h : bdOk x) : nrm (encT x) = x := norm_enc h
theorem unis_drop {l : List ClkT} {sh : List Int} {i : Nat} {x : ClkT} {t : Int} (hx : l[i]? = some x) (ht : sh[i]? = some t) : (unis l sh).drop i = clkU x t :: (unis l sh).drop (i + 1) := by
  have : (unis l sh)[i]? = some (clkU x t) := by simp [unis, List.getElem?_zipWith, hx, ht]
  obtain ⟨h1, h2⟩ := List.getElem?_eq_some_iff.1 this
  rw [List.drop_eq_getElem_cons h1, h2]
theorem unis_len {l : List ClkT} {sh : List Int} (h : sh.length = l.length) : (unis l sh).length = l.length := by simp [unis, h]
theorem unis_ok (l : List ClkT) (sh : List Int) : ∀ x ∈ unis l sh, bdOk x := by
  intro x hx
  obtain ⟨i, hi⟩ := List.mem_iff_getElem?.1 hx
  rw [unis, List.getElem?_zipWith] at hi
  split at hi
  · cases hi; exact uni_ok _ _ _ _ _ _
  · cases hi
theorem agree_ok (l : List ClkT) (sh : List Int) (f : Int) (hf : fits f) (hl : l.length ≤ 9000000000000000000) (hs : sh.length ≤ 9000000000000000000) (t1 t2 : Bool) :
    Pure Try.prog 54 [.sl l.length (l.flatMap clkT) t1, .sl sh.length (sh.flatMap ni) t2, .n .i64 f] (.tup [encB (agB l sh f), .n .i64 (agErr l sh)]) := by
  refine pure_of_wp of54 (Nat.le_of_ble_eq_true rfl) ?_
  refine DecK.dec (fun h => ?_) (fun h => ?_)
  · have e : agErr l sh = 2 := if_pos (by omega)
    ((repeat' first | refine DecK.tt ?_ | refine DecK.ff ?_ | refine DecK.beq (fun _ => ?_) (fun _ => ?_) | refine DecK.bne (fun _ => ?_) (fun _ => ?_) | refine DecK.dec (fun _ => ?_) (fun _ => ?_) | refine OptK.mk _ rfl ?_ | refine endV (by rfl) ?_) <;> (try with_reducible rfl))
    rw [agB, e, if_neg (by decide)]; rfl
  refine DecK.bne (fun h2 => ?_) (fun h2 => ?_)
  · have e : agErr l sh = 14 := by rw [agErr, if_neg (by omega), if_pos (by omega)]
    ((repeat' first | refine DecK.tt ?_ | refine DecK.ff ?_ | refine DecK.beq (fun _ => ?_) (fun _ => ?_) | refine DecK.bne (fun _ => ?_) (fun _ => ?_) | refine DecK.dec (fun _ => ?_) (fun _ => ?_) | refine OptK.mk _ rfl ?_ | refine endV (by rfl) ?_) <;> (try with_reducible rfl))
    rw [agB, e, if_neg (by decide)]; rfl
  have e : agErr l sh = clksE l := by rw [agErr, if_neg (by omega), if_neg (by omega)]
  rw [e]
  have hlen : sh.length = l.length := by omega
  have hul := unis_len hlen
  refine loop_left 1 (fun (e : Int × Bool) tail => ⟨[(1, .v (.sl sh.length (sh.flatMap ni) t2)), (2, .v (.n .i64 f)), (6, .ref 6 0), (8, .own 8 3 0 ((unis l sh).map encT).length), (24, .v (.sl l.length (l.flatMap clkT) t1)), (25, .v (.n .i64 l.length)), (26, .v (.n .i64 e.1)), (27, .v (.b e.2))], [(8, ((unis l sh).map encT).flatMap bdT), (6, [.n .i64 0, .n .i64 0, .b false])]⟩) (fun _ => clksE l = 0) ?_ ?_
  · refine loop_ind2 (fun (a : List BdT) (i : Int) => ⟨[(1, .v (.sl sh.length (sh.flatMap ni) t2)), (2, .v (.n .i64 f)), (6, .ref 6 0), (8, .own 8 3 0 a.length), (24, .v (.sl l.length (l.flatMap clkT) t1)), (25, .v (.n .i64 l.length)), (26, .v (.n .i64 i))], [(8, a.flatMap bdT), (6, [.n .i64 0, .n .i64 0, .b false])]⟩) (fun a i => l.length - i.toNat)
      (fun a i => 0 ≤ i ∧ i ≤ l.length ∧ a.length = i ∧ clksE (l.drop i.toNat) = clksE l ∧ a ++ ((unis l sh).drop i.toNat).map encT = (unis l sh).map encT) [] 0 (by simp) ?_
    intro a iz ⟨h1, h3, h4, h5, h6⟩ ih
    obtain ⟨i, rfl⟩ : ∃ i : Nat, iz = i := ⟨iz.toNat, by omega⟩
    simp only [Int.toNat_natCast] at h5 h6
    refine DecK.dec (fun h => ?_) (fun h => ?_)
    · obtain ⟨x, hx, ex, mx, _⟩ := at_ex' (l := l) (k := i) (by omega)
      obtain ⟨t, ht, _, _, _⟩ := at_ex' (l := sh) (k := i) (by omega)
      have wi : IntKind.i64.wrap ((i : Int) + 1) = ((i + 1 : Nat) : Int) := w64 (by omega)
      rw [ex, clksE] at h5
      rw [unis_drop hx ht, List.map_cons] at h6
      refine OptK.mk _ (ria i rfl (by omega)) ?_
      refine OptK.mk _ (rld clkz hx) ?_
      refine OptK.mk _ rfl ?_
      refine CallK.mk _ (clkCheck _ _ _ _ _) rfl ?_
      rw [show clkErr x.1 x.2.1.1 x.2.1.2.1 x.2.1.2.2.1 x.2.2.1 = clkE x from rfl]
      refine DecK.bne (fun g => ?_) (fun g => ?_)
      · rw [if_pos g] at h5
        refine OptK.mk _ rfl ?_
        refine .ret rfl ?_
        refine endV (by rfl) ?_
        rw [agB, e, if_neg (by rw [← h5]; exact g), ← h5]; rfl
      · rw [if_neg (by simpa using g)] at h5
        refine OptK.mk _ (ria i rfl (by omega)) ?_
        refine OptK.mk _ (rld1 (g := fun x => .n .i64 x) ht) ?_
        refine CallK.mk _ (uniform_ok _ _ _ _ _ t) rfl ?_
        rw [show uniB x.1 x.2.1.1 x.2.1.2.1 x.2.1.2.2.1 x.2.2.1 t = clkU x t from rfl]
        refine OptK.mk _ (own_app (f := bdT) (x := encT (clkU x t)) bdz rfl rfl (by omega)) ?_
        refine loop_eq (by rw [wi] <;> rfl) (ih (a ++ [encT (clkU x t)]) ((i + 1 : Nat) : Int) ⟨by omega, by omega, by simp; omega, by simpa using h5, by simpa using h6⟩ (by simp only [Int.toNat_natCast]; omega))
    · refine .mk ((i : Int), decide ((i : Int) < l.length)) [] rfl ?_ ?_
      · rw [List.drop_eq_nil_of_le (by omega)] at h6
        simp only [List.map_nil, List.append_nil] at h6
        rw [h6]
      · rw [← h5, List.drop_eq_nil_of_le (by omega)]; rfl
  · intro ⟨i1, b1⟩ tail h0
    refine inBlk ?_
    have hm : ((unis l sh).map encT).map nrm = unis l sh := by
      rw [List.map_map]
      conv => rhs; rw [← List.map_id (unis l sh)]
      exact List.map_congr_left fun x hx => nrm_enc (unis_ok l sh x hx)
    have hfu := fuseTick ((unis l sh).map encT) f (by simp; omega) hf
    rw [hm] at hfu
    refine CallK.mk _ (hfu.args (by have := snapRow bdz ((unis l sh).map encT); simp only [this])) rfl ?_
    ((repeat' first | refine DecK.tt ?_ | refine DecK.ff ?_ | refine DecK.beq (fun _ => ?_) (fun _ => ?_) | refine DecK.bne (fun _ => ?_) (fun _ => ?_) | refine DecK.dec (fun _ => ?_) (fun _ => ?_) | refine OptK.mk _ rfl ?_ | refine endV (by rfl) ?_) <;> (try with_reducible rfl))
    rw [agB, e, if_pos h0, h0]; rfl
/-- The bounds of which something is known. -/
def knownL : List Bd → List Bd
  | [] => []
  | none :: l => knownL l
  | some p :: l => some p :: knownL l
theorem known_mem : ∀ {l : List Bd} {x : Bd}, x ∈ knownL l → x ∈ l ∧ ∃ p, x = some p
  | none :: l, x, h => by
    obtain ⟨h1, h2⟩ := known_mem (l := l) h
    exact ⟨by simp [h1], h2⟩
  | some p :: l, x, h => by
    rcases List.mem_cons.1 h with rfl | h
    · exact ⟨by simp, p, rfl⟩
    · obtain ⟨h1, h2⟩ := known_mem (l := l) h
      exact ⟨by simp [h1], h2⟩
theorem known_votes (v : Int) : ∀ l : List Bd, votesF (knownL l) v = votesF l v
  | [] => rfl
  | none :: l => by simp only [knownL, votesF, voteB, known_votes v l, Bool.false_eq_true, if_false]; omega
  | some p :: l => by simp only [knownL, votesF, known_votes v l]
theorem known_ends : ∀ l : List Bd, endsF (knownL l) = endsF l ∧ cntB (knownL l) = cntB l ∧ (knownL l).length = cntB l
  | [] => ⟨rfl, rfl, rfl⟩
  | none :: l => by
    obtain ⟨h1, h2, h3⟩ := known_ends l
    simp only [endsF] at h1
    simp only [knownL, endsF, List.flatMap_cons, endsB, List.nil_append, cntB, h1, h2, h3, and_self]
  | some p :: l => by
    obtain ⟨h1, h2, h3⟩ := known_ends l
    simp only [endsF] at h1
    simp only [knownL, endsF, List.flatMap_cons, cntB, h1, h2, h3, List.length_cons, and_self]
theorem known_fuse (l : List Bd) (f : Int) : fuseF (knownL l) f = fuseF l f := by
  obtain ⟨h1, h2, h3⟩ := known_ends l
  unfold fuseF keptF
  simp only [h1, h2, known_votes]
abbrev agS (f n : Int) (K : List BdT) : List (Nat × D) := [(2, .v (.n .i64 f)), (6, .ref 6 0), (8, .v (.n .i64 n)), (9, .own 9 3 0 K.length), (14, .ref 14 0)]
theorem agree_in {Q : Exit → St → Prop} (K : List BdT) (f n need : Int) (hl : K.length ≤ 1000000) (hw : IntKind.i64.wrap (n - f) = need) (ix : Int) (a b : Int) (ha : fits a) (hb : fits b) (w : Bd)
    (hX : ∀ w' i c, w' = ([a, b].filter fun x => decide (need ≤ votesF (K.map nrm) x)).foldl stepW w → Q (.exit 4) ⟨agS f n K ++ [(67, .own 9 3 0 K.length), (68, .v (.n .i64 K.length)), (69, .v (.n .i64 ix)), (77, .v (.sl 2 [.n .i64 a, .n .i64 b] true)), (78, .v (.n .i64 2)), (79, .v (.n .i64 i)), (80, .v (.b c))], [(14, encC w'), (9, K.flatMap bdT), (6, [.n .i64 0, .n .i64 0, .b false])]⟩) :
    loopW Try.prog [2, 6, 8, 9, 14, 67, 68, 69, 77, 78, 79] L55_0 Q ⟨agS f n K ++ [(67, .own 9 3 0 K.length), (68, .v (.n .i64 K.length)), (69, .v (.n .i64 ix)), (77, .v (.sl 2 [.n .i64 a, .n .i64 b] true)), (78, .v (.n .i64 2)), (79, .v (.n .i64 0))], [(14, encC w), (9, K.flatMap bdT), (6, [.n .i64 0, .n .i64 0, .b false])]⟩ := by
  refine loop_ind2 (fun (w : Bd) (k : Int) => ⟨agS f n K ++ [(67, .own 9 3 0 K.length), (68, .v (.n .i64 K.length)), (69, .v (.n .i64 ix)), (77, .v (.sl 2 [.n .i64 a, .n .i64 b] true)), (78, .v (.n .i64 2)), (79, .v (.n .i64 k))], [(14, encC w), (9, K.flatMap bdT), (6, [.n .i64 0, .n .i64 0, .b false])]⟩) (fun w k => 2 - k.toNat)
    (fun w' k => 0 ≤ k ∧ k ≤ 2 ∧ (([a, b].drop k.toNat).filter fun x => decide (need ≤ votesF (K.map nrm) x)).foldl stepW w' = ([a, b].filter fun x => decide (need ≤ votesF (K.map nrm) x)).foldl stepW w) w 0 ⟨by decide, by decide, rfl⟩ ?_
  intro w' k ⟨k0, k2, k4⟩ ih
  have hsn := snapRow bdz K
  refine DecK.dec (fun h => ?_) (fun h => ?_)
  · obtain ⟨y, hy, hyk, hyd⟩ : ∃ y, fits y ∧ [a, b][k.toNat]? = some y ∧ [a, b].drop k.toNat = y :: [a, b].drop (k.toNat + 1) := by
      rcases (show k = 0 ∨ k = 1 by omega) with rfl | rfl
      · exact ⟨a, ha, rfl, rfl⟩
      · exact ⟨b, hb, rfl, rfl⟩
    have wk : IntKind.i64.wrap (k + 1) = k + 1 := w64 (by omega)
    have hk1 : (k + 1).toNat = k.toNat + 1 := by omega
    rw [hyd, List.filter_cons] at k4
    refine OptK.mk _ (ria (n := 2) k.toNat (by omega) (by omega)) ?_
    refine OptK.mk _ (rld1 (g := fun x => .n .i64 x) (l := [a, b]) hyk) ?_
    refine CallK.mk _ ((spreadTick K y hl hy).args (by show [V.sl K.length (((K.flatMap bdT).drop 0).take (K.length * 3)) false, V.n .i64 y] = _; rw [hsn])) rfl ?_
    refine DecK.dec (fun g => ?_) (fun g => ?_)
    · rw [hw] at g
      rw [if_neg (by rw [decide_eq_true_eq]; omega)] at k4
      refine loop_eq (by rw [wk] <;> rfl) (ih w' (k + 1) ⟨by omega, by omega, by rw [hk1]; exact k4⟩ (by omega))
    · rw [hw] at g
      rw [if_pos (by rw [decide_eq_true_eq]; omega), List.foldl_cons] at k4
      rcases w' with _ | ⟨p, q⟩
      · refine DecK.tt ?_
        refine OptK.mk _ rfl ?_
        refine OptK.mk _ rfl ?_
        refine OptK.mk _ rfl ?_
        refine loop_eq ?_ (ih (some (y, y)) (k + 1) ⟨by omega, by omega, by rw [hk1]; exact k4⟩ (by omega))
        have e1 : (if y < y then y else y) = y := by simp
        have e2 : (if y > y then y else y) = y := by simp
        rw [wk]
        first | rfl | (simp only [e1, e2]; rfl) | (simp; done)
      · refine DecK.ff ?_
        refine OptK.mk _ rfl ?_
        refine OptK.mk _ rfl ?_
        refine loop_eq ?_ (ih (some (min p y, max q y)) (k + 1) ⟨by omega, by omega, by rw [hk1]; exact k4⟩ (by omega))
        have e1 : (if y < p then y else p) = min p y := by omega
        have e2 : (if y > q then y else q) = max q y := by omega
        rw [wk, ← e1, ← e2]
        rfl
  · obtain rfl : k = 2 := by omega
    exact hX w' _ _ k4
theorem agreed_ok (l : List ClkT) (sh : List Int) (f : Int) (hf : fits f) (hl : l.length ≤ 9000000000000000000) (hs : sh.length ≤ 9000000000000000000) (t1 t2 : Bool) :
    Pure Try.prog 55 [.sl l.length (l.flatMap clkT) t1, .sl sh.length (sh.flatMap ni) t2, .n .i64 f] (.tup [encB (agB l sh f), .n .i64 (agErr l sh)]) := by
  refine pure_of_wp of55 (Nat.le_of_ble_eq_true rfl) ?_
  have hff := hf
  unfold fits at hff
  refine DecK.dec (fun h => ?_) (fun h => ?_)
  · have e : agErr l sh = 2 := if_pos (by omega)
    ((repeat' first | refine DecK.tt ?_ | refine DecK.ff ?_ | refine DecK.beq (fun _ => ?_) (fun _ => ?_) | refine DecK.bne (fun _ => ?_) (fun _ => ?_) | refine DecK.dec (fun _ => ?_) (fun _ => ?_) | refine OptK.mk _ rfl ?_ | refine endV (by rfl) ?_) <;> (try with_reducible rfl))
    rw [agB, e, if_neg (by decide)]; rfl
  refine DecK.bne (fun h2 => ?_) (fun h2 => ?_)
  · have e : agErr l sh = 14 := by rw [agErr, if_neg (by omega), if_pos (by omega)]
    ((repeat' first | refine DecK.tt ?_ | refine DecK.ff ?_ | refine DecK.beq (fun _ => ?_) (fun _ => ?_) | refine DecK.bne (fun _ => ?_) (fun _ => ?_) | refine DecK.dec (fun _ => ?_) (fun _ => ?_) | refine OptK.mk _ rfl ?_ | refine endV (by rfl) ?_) <;> (try with_reducible rfl))
    rw [agB, e, if_neg (by decide)]; rfl
  have e : agErr l sh = clksE l := by rw [agErr, if_neg (by omega), if_neg (by omega)]
  rw [e]
  have hlen : sh.length = l.length := by omega
  have hul := unis_len hlen
  obtain ⟨k1, k2, k3⟩ := known_ends (unis l sh)
  obtain ⟨K, hK⟩ : ∃ K, K = (knownL (unis l sh)).map encT := ⟨_, rfl⟩
  have hKn : K.map nrm = knownL (unis l sh) := by
    rw [hK, List.map_map]
    conv => rhs; rw [← List.map_id (knownL (unis l sh))]
    exact List.map_congr_left fun x hx => nrm_enc (unis_ok l sh x (known_mem hx).1)
  have hKl : K.length = cntB (unis l sh) := by rw [hK, List.length_map, k3]
  have hcnt := (ends_len (unis l sh)).2
  refine loop_left 0 (fun (e : Int × Bool) tail => ⟨[(1, .v (.sl sh.length (sh.flatMap ni) t2)), (2, .v (.n .i64 f)), (6, .ref 6 0), (8, .v (.n .i64 (cntB (unis l sh)))), (9, .own 9 3 0 K.length), (29, .v (.sl l.length (l.flatMap clkT) t1)), (30, .v (.n .i64 l.length)), (31, .v (.n .i64 e.1)), (32, .v (.b e.2))], [(9, K.flatMap bdT), (6, [.n .i64 0, .n .i64 0, .b false])]⟩) (fun _ => clksE l = 0) ?_ ?_
  · refine loop_ind3 (fun (a : List BdT) (n i : Int) => ⟨[(1, .v (.sl sh.length (sh.flatMap ni) t2)), (2, .v (.n .i64 f)), (6, .ref 6 0), (8, .v (.n .i64 n)), (9, .own 9 3 0 a.length), (29, .v (.sl l.length (l.flatMap clkT) t1)), (30, .v (.n .i64 l.length)), (31, .v (.n .i64 i))], [(9, a.flatMap bdT), (6, [.n .i64 0, .n .i64 0, .b false])]⟩) (fun a n i => l.length - i.toNat)
      (fun a n i => 0 ≤ i ∧ i ≤ l.length ∧ a.length ≤ i ∧ n = a.length ∧ clksE (l.drop i.toNat) = clksE l ∧ a ++ (knownL ((unis l sh).drop i.toNat)).map encT = K) [] 0 0 (by simp [hK]) ?_
    intro a n iz ⟨h1, h3, h4, hn, h5, h6⟩ ih
    obtain ⟨i, rfl⟩ : ∃ i : Nat, iz = i := ⟨iz.toNat, by omega⟩
    simp only [Int.toNat_natCast] at h5 h6
    refine DecK.dec (fun h => ?_) (fun h => ?_)
    · obtain ⟨x, hx, ex, mx, _⟩ := at_ex' (l := l) (k := i) (by omega)
      obtain ⟨t, ht, _, _, _⟩ := at_ex' (l := sh) (k := i) (by omega)
      have wi : IntKind.i64.wrap ((i : Int) + 1) = ((i + 1 : Nat) : Int) := w64 (by omega)
      have wn : IntKind.i64.wrap (n + 1) = n + 1 := w64 (by omega)
      rw [ex, clksE] at h5
      rw [unis_drop hx ht] at h6
      refine OptK.mk _ (ria i rfl (by omega)) ?_
      refine OptK.mk _ (rld clkz hx) ?_
      refine OptK.mk _ rfl ?_
      refine CallK.mk _ (clkErr2 _ _ _ _ _) rfl ?_
      rw [show clkErr x.1 x.2.1.1 x.2.1.2.1 x.2.1.2.2.1 x.2.2.1 = clkE x from rfl]
      refine DecK.bne (fun g => ?_) (fun g => ?_)
      · rw [if_pos g] at h5
        refine OptK.mk _ rfl ?_
        refine .ret rfl ?_
        refine endV (by rfl) ?_
        rw [agB, e, if_neg (by rw [← h5]; exact g), ← h5]; rfl
      · rw [if_neg (by simpa using g)] at h5
        refine OptK.mk _ (ria i rfl (by omega)) ?_
        refine OptK.mk _ (rld1 (g := fun x => .n .i64 x) ht) ?_
        refine CallK.mk _ (said_ok _ _ _ _ _ t) rfl ?_
        rw [show uniB x.1 x.2.1.1 x.2.1.2.1 x.2.1.2.2.1 x.2.2.1 t = clkU x t from rfl]
        generalize clkU x t = y at *
        refine OptK.mk _ rfl ?_
        rcases y with _ | p
        · refine DecK.no rfl ?_
          refine loop_eq (by rw [wi] <;> rfl) (ih a n ((i + 1 : Nat) : Int) ⟨by omega, by omega, by omega, hn, by simpa using h5, by simpa [knownL] using h6⟩ (by simp only [Int.toNat_natCast]; omega))
        · refine DecK.yes rfl ?_
          refine OptK.mk _ (own_app (f := bdT) (x := encT (some p)) bdz rfl rfl (by omega)) ?_
          refine loop_eq (by rw [wi, wn] <;> rfl) (ih (a ++ [encT (some p)]) (n + 1) ((i + 1 : Nat) : Int) ⟨by omega, by omega, by simp; omega, by simp; omega, by simpa using h5, by simpa [knownL] using h6⟩ (by simp only [Int.toNat_natCast]; omega))
    · refine .mk ((i : Int), decide ((i : Int) < l.length)) [] rfl ?_ ?_
      · rw [List.drop_eq_nil_of_le (by omega)] at h6
        simp only [knownL, List.map_nil, List.append_nil] at h6
        rw [h6, hn, h6, hKl]
      · rw [← h5, List.drop_eq_nil_of_le (by omega)]; rfl
  · intro ⟨i1, b1⟩ tail h0
    refine inBlk ?_
    have eB : agB l sh f = fuseF (K.map nrm) f := by rw [agB, e, if_pos h0, hKn, known_fuse]
    rw [eB, h0]
    have hcK : cntB (K.map nrm) = cntB (unis l sh) := by rw [hKn, k2]
    generalize hn : (cntB (unis l sh) : Int) = n at *
    have hKnn : (K.length : Int) = n := by rw [← hn, hKl]
    refine OptK.mk _ rfl ?_
    by_cases act : f < 0 ∨ n ≤ f
    · have e2 : fuseF (K.map nrm) f = none := if_pos (by rw [hcK, hn]; exact act)
      rw [e2]
      repeat' first | (refine DecK.tt ?_) | (refine OptK.mk _ rfl ?_) | (refine DecK.dec (fun _ => ?_) (fun _ => ?_)) | (refine endV (by rfl) ?_)
      all_goals first | rfl | (exfalso; omega)
    · have e2 : fuseF (K.map nrm) f = wrapB (keptF (K.map nrm) (n - f)) := by rw [← hn, ← hcK]; exact if_neg (by rw [hcK, hn]; exact act)
      rw [e2]
      have hw : IntKind.i64.wrap (n - f) = n - f := w64 (by omega)
      obtain ⟨need, hneed⟩ : ∃ need, need = n - f := ⟨_, rfl⟩
      have hw : IntKind.i64.wrap (n - f) = need := by rw [hw, hneed]
      rw [← hneed]
      refine DecK.no (decide_eq_false (by omega)) ?_
      refine DecK.no (decide_eq_false (by omega)) ?_
      refine loop_left 2 (fun (e : Int × Bool) tail => ⟨agS f n K ++ [(67, .own 9 3 0 K.length), (68, .v (.n .i64 K.length)), (69, .v (.n .i64 e.1)), (70, .v (.b e.2))], [(14, encC (wrapB (keptF (K.map nrm) need))), (9, K.flatMap bdT), (6, [.n .i64 0, .n .i64 0, .b false])]⟩) (fun _ => True) ?_ ?_
      · refine loop_ind2 (fun (w : Bd) (i : Int) => ⟨agS f n K ++ [(67, .own 9 3 0 K.length), (68, .v (.n .i64 K.length)), (69, .v (.n .i64 i))], [(14, encC w), (9, K.flatMap bdT), (6, [.n .i64 0, .n .i64 0, .b false])]⟩) (fun w i => K.length - i.toNat)
          (fun w i => 0 ≤ i ∧ i ≤ K.length ∧ ((endsF ((K.drop i.toNat).map nrm)).filter fun x => decide (need ≤ votesF (K.map nrm) x)).foldl stepW w = wrapB (keptF (K.map nrm) need)) none 0 ⟨by decide, by omega, rfl⟩ ?_
        intro w iz ⟨h1, h2, h5⟩ ih
        obtain ⟨i, rfl⟩ : ∃ i : Nat, iz = i := ⟨iz.toNat, by omega⟩
        simp only [Int.toNat_natCast] at h5
        refine DecK.dec (fun h => ?_) (fun h => ?_)
        · obtain ⟨x, hx, ex, mx, _⟩ := at_ex' (l := K) (k := i) (by omega)
          have wi : IntKind.i64.wrap ((i : Int) + 1) = ((i + 1 : Nat) : Int) := w64 (by omega)
          have ec : endsF ((x :: K.drop (i + 1)).map nrm) = endsB (nrm x) ++ endsF ((K.drop (i + 1)).map nrm) := by simp [endsF]
          rw [ex, ec, List.filter_append, List.foldl_append] at h5
          obtain ⟨p, hp, hpv⟩ : ∃ p : Int × Int, x = encT (some p) ∧ bval p.1 p.2 := by
            rw [hK] at mx
            obtain ⟨y, hy, rfl⟩ := List.mem_map.1 mx
            obtain ⟨hy1, p, rfl⟩ := known_mem hy
            exact ⟨p, rfl, unis_ok l sh _ hy1⟩
          subst hp
          rw [nrm_enc (x := some p) hpv] at h5
          refine OptK.mk _ (oia i rfl (by omega)) ?_
          refine OptK.mk _ (old bdz rfl hx) ?_
          refine OptK.mk _ rfl ?_
          refine agree_in K f n need (by omega) hw i p.1 p.2 hpv.f1.1 hpv.f1.2 w (fun w' k c hw' => ?_)
          refine inBlk ?_
          exact loop_eq (by rw [wi] <;> rfl) (ih w' ((i + 1 : Nat) : Int) ⟨by omega, by omega, by rw [hw']; simpa [endsB] using h5⟩ (by simp only [Int.toNat_natCast]; omega))
        · refine .mk ((i : Int), decide ((i : Int) < K.length)) [] rfl ?_ trivial
          rw [List.drop_eq_nil_of_le (by omega)] at h5
          simp only [List.map_nil, endsF, List.flatMap_nil, List.filter_nil, List.foldl_nil] at h5
          rw [h5]
          rfl
      · intro ⟨i2, b2⟩ tail _
        refine inBlk ?_
        refine OptK.mk _ rfl ?_
        refine endV (by rfl) ?_
        rfl
theorem clockAgrees_pure (l : List ClkT) (sh : List Int) (f : Int) (hf : fits f) (hl : l.length ≤ 9000000000000000000) (hs : sh.length ≤ 9000000000000000000) : Pure Try.prog 12 [rowV clkT l, intsV sh, .n .i64 f] (.b true) := by
  refine pure_of_wp of12 (Nat.le_of_ble_eq_true rfl) ?_
  refine CallK.mk _ (agree_ok l sh f hf hl hs false false) rfl ?_
  refine OptK.mk _ rfl ?_
  refine CallK.mk _ (agreed_ok l sh f hf hl hs false false) rfl ?_
  refine OptK.mk _ rfl ?_
  refine CallK.mk _ clocks_ok rfl ?_
  refine DecK.tt ?_
  refine OptK.mk _ (eqB _) ?_
  repeat' first | (refine DecK.yes (by simp) ?_) | (refine endV (by rfl) ?_)
  simp
end Go.Proofs.Ytdceakejbnolpaa.Sv

/- Civil time to uniform time. No condition. -/
import Derived.Test.YtljcbmnkjiogmaaDoorTd
namespace Go.Proofs.YtljcbmnkjiogmaaDoor.Sv
open Go Go.RowKit
set_option linter.unusedVariables false
set_option linter.unusedSimpArgs false
set_option maxRecDepth 100000
/-- spyglass/spyref1.CivilErr$1 -/
def F54 : Fn1 := ⟨12, .seq (.reg [⟨some 4, none, .mv, [.cn (.b false)]⟩] [0, 1]) (.seq (.reg [⟨some 5, none, .mv, [.tm 0]⟩, ⟨some 6, none, .po (.bin .geq), [.tm 5, .cn (.n .i64 0)]⟩, ⟨some 7, none, .mv, [.tm 6]⟩, ⟨some 8, some (7, true), .mv, [.tm 0]⟩, ⟨some 9, some (7, true), .mv, [.tm 1]⟩, ⟨some 10, some (7, true), .po (.bin .leq), [.tm 8, .tm 9]⟩, ⟨some 11, none, .pick, [.tm 7, .tm 10, .cn (.b false)]⟩, ⟨some 4, none, .mv, [.tm 11]⟩] [4]) .ret), [.tm 4]⟩
theorem of54 : Fn1.of Tryd.prog 54 ⟨false, [], false⟩ [[0, 1], [4]] = some F54 := by kernel_rfl
/-- spyglass/spyref1.CivilErr -/
def F35 : Fn1 := ⟨64, .seq (.reg [⟨some 1, none, .box, [.tm 0]⟩, ⟨some 2, none, .mv, [.cn (.n .i64 0)]⟩] [1]) (.seq (.reg [⟨some 8, none, .fa 0, [.tm 1]⟩, ⟨some 9, none, .ld false 1 false, [.tm 8]⟩, ⟨some 10, none, .fa 1, [.tm 1]⟩, ⟨some 11, none, .ld false 1 false, [.tm 10]⟩, ⟨some 12, none, .fa 2, [.tm 1]⟩, ⟨some 13, none, .ld false 1 false, [.tm 12]⟩, ⟨some 14, none, .call 53, [.tm 9, .tm 11, .tm 13]⟩, ⟨some 7, none, .mv, [.tm 14]⟩, ⟨some 15, none, .po (.ext 0), [.tm 7]⟩, ⟨some 16, none, .po (.ext 1), [.tm 7]⟩, ⟨some 3, none, .mv, [.tm 15]⟩, ⟨some 4, none, .mv, [.tm 16]⟩] [1, 4]) (.seq (.reg [⟨some 5, none, .mv, [.cn (.clo (.func 54) [] [])]⟩] [1, 4, 5]) (.seq (.reg [⟨some 17, none, .fa 5, [.tm 1]⟩, ⟨some 18, none, .ld false 1 false, [.tm 17]⟩, ⟨some 19, none, .po (.bin .eql), [.tm 18, .cn (.n .i64 60)]⟩, ⟨some 20, none, .mv, [.tm 19]⟩, ⟨some 21, some (20, true), .fa 3, [.tm 1]⟩, ⟨some 22, some (20, true), .ld false 1 false, [.tm 21]⟩, ⟨some 23, some (20, true), .po (.bin .eql), [.tm 22, .cn (.n .i64 23)]⟩, ⟨some 24, none, .pick, [.tm 20, .tm 23, .cn (.b false)]⟩, ⟨some 25, none, .mv, [.tm 24]⟩, ⟨some 26, some (25, true), .fa 4, [.tm 1]⟩, ⟨some 27, some (25, true), .ld false 1 false, [.tm 26]⟩, ⟨some 28, some (25, true), .po (.bin .eql), [.tm 27, .cn (.n .i64 59)]⟩, ⟨some 29, none, .pick, [.tm 25, .tm 28, .cn (.b false)]⟩, ⟨some 6, none, .mv, [.tm 29]⟩] [1, 4, 5, 6]) (.seq (.seq (.reg [⟨some 30, none, .mv, [.tm 4]⟩, ⟨some 31, none, .po (.bin .neq), [.tm 30, .cn (.n .i64 0)]⟩, ⟨some 32, none, .mv, [.tm 31]⟩, ⟨some 33, some (32, false), .mv, [.tm 5]⟩, ⟨some 34, some (32, false), .fa 3, [.tm 1]⟩, ⟨some 35, some (32, false), .ld false 1 false, [.tm 34]⟩, ⟨some 36, some (32, false), .callD, [.tm 33, .tm 35, .cn (.n .i64 23)]⟩, ⟨some 37, some (32, false), .po (.un .not), [.tm 36]⟩, ⟨some 38, none, .pick, [.tm 32, .cn (.b true), .tm 37]⟩, ⟨some 39, none, .mv, [.tm 38]⟩, ⟨some 40, some (39, false), .mv, [.tm 5]⟩, ⟨some 41, some (39, false), .fa 4, [.tm 1]⟩, ⟨some 42, some (39, false), .ld false 1 false, [.tm 41]⟩, ⟨some 43, some (39, false), .callD, [.tm 40, .tm 42, .cn (.n .i64 59)]⟩, ⟨some 44, some (39, false), .po (.un .not), [.tm 43]⟩, ⟨some 45, none, .pick, [.tm 39, .cn (.b true), .tm 44]⟩, ⟨some 46, none, .mv, [.tm 45]⟩, ⟨some 47, some (46, false), .mv, [.tm 5]⟩, ⟨some 48, some (46, false), .fa 5, [.tm 1]⟩, ⟨some 49, some (46, false), .ld false 1 false, [.tm 48]⟩, ⟨some 50, some (46, false), .callD, [.tm 47, .tm 49, .cn (.n .i64 59)]⟩, ⟨some 51, some (46, false), .po (.un .not), [.tm 50]⟩, ⟨some 52, some (46, false), .mv, [.tm 51]⟩, ⟨some 53, some (52, true), .mv, [.tm 6]⟩, ⟨some 54, some (52, true), .po (.un .not), [.tm 53]⟩, ⟨some 55, some (46, false), .pick, [.tm 52, .tm 54, .cn (.b false)]⟩, ⟨some 56, none, .pick, [.tm 46, .cn (.b true), .tm 55]⟩, ⟨some 57, none, .mv, [.tm 56]⟩, ⟨some 58, some (57, false), .mv, [.tm 5]⟩, ⟨some 59, some (57, false), .fa 6, [.tm 1]⟩, ⟨some 60, some (57, false), .ld false 1 false, [.tm 59]⟩, ⟨some 61, some (57, false), .callD, [.tm 58, .tm 60, .cn (.n .i64 999)]⟩, ⟨some 62, some (57, false), .po (.un .not), [.tm 61]⟩, ⟨some 63, none, .pick, [.tm 57, .cn (.b true), .tm 62]⟩] [63]) (.cond (.tm 63) (.seq (.reg [⟨some 2, none, .mv, [.cn (.n .i64 4)]⟩] [2]) .ret) .skip)) (.seq (.reg [⟨some 2, none, .mv, [.cn (.n .i64 0)]⟩] [2]) .ret))))), [.tm 2]⟩
theorem of35 : Fn1.of Tryd.prog 35 ⟨false, [], false⟩ [[1], [1, 4], [1, 4, 5], [1, 4, 5, 6], [63], [2], [2]] = some F35 := by kernel_rfl
/-- spyglass/scale.Check -/
def F33 : Fn1 := ⟨67, .seq (.reg [⟨some 1, none, .box, [.tm 0]⟩, ⟨some 2, none, .mv, [.cn (.n .i64 0)]⟩] [1]) (.seq (.reg [⟨some 7, none, .fa 0, [.tm 1]⟩, ⟨some 8, none, .ld false 1 false, [.tm 7]⟩, ⟨some 9, none, .fa 1, [.tm 1]⟩, ⟨some 10, none, .ld false 1 false, [.tm 9]⟩, ⟨some 11, none, .fa 2, [.tm 1]⟩, ⟨some 12, none, .ld false 1 false, [.tm 11]⟩, ⟨some 13, none, .call 51, [.tm 8, .tm 10, .tm 12]⟩, ⟨some 6, none, .mv, [.tm 13]⟩, ⟨some 14, none, .po (.ext 0), [.tm 6]⟩, ⟨some 15, none, .po (.ext 1), [.tm 6]⟩, ⟨some 3, none, .mv, [.tm 14]⟩, ⟨some 4, none, .mv, [.tm 15]⟩] [1, 4]) (.seq (.reg [⟨some 5, none, .mv, [.cn (.n .i64 59)]⟩] [1, 4, 5]) (.seq (.seq (.reg [⟨some 16, none, .fa 3, [.tm 1]⟩, ⟨some 17, none, .ld false 1 false, [.tm 16]⟩, ⟨some 18, none, .po (.bin .eql), [.tm 17, .cn (.n .i64 23)]⟩, ⟨some 19, none, .mv, [.tm 18]⟩, ⟨some 20, some (19, true), .fa 4, [.tm 1]⟩, ⟨some 21, some (19, true), .ld false 1 false, [.tm 20]⟩, ⟨some 22, some (19, true), .po (.bin .eql), [.tm 21, .cn (.n .i64 59)]⟩, ⟨some 23, none, .pick, [.tm 19, .tm 22, .cn (.b false)]⟩] [1, 4, 5, 23]) (.cond (.tm 23) (.reg [⟨some 5, none, .mv, [.cn (.n .i64 60)]⟩] [1, 4, 5]) .skip)) (.seq (.seq (.reg [⟨some 24, none, .mv, [.tm 4]⟩, ⟨some 25, none, .po (.bin .neq), [.tm 24, .cn (.n .i64 0)]⟩, ⟨some 26, none, .mv, [.tm 25]⟩, ⟨some 27, some (26, false), .fa 3, [.tm 1]⟩, ⟨some 28, some (26, false), .ld false 1 false, [.tm 27]⟩, ⟨some 29, some (26, false), .po (.bin .lss), [.tm 28, .cn (.n .i64 0)]⟩, ⟨some 30, none, .pick, [.tm 26, .cn (.b true), .tm 29]⟩, ⟨some 31, none, .mv, [.tm 30]⟩, ⟨some 32, some (31, false), .fa 3, [.tm 1]⟩, ⟨some 33, some (31, false), .ld false 1 false, [.tm 32]⟩, ⟨some 34, some (31, false), .po (.bin .gtr), [.tm 33, .cn (.n .i64 23)]⟩, ⟨some 35, none, .pick, [.tm 31, .cn (.b true), .tm 34]⟩, ⟨some 36, none, .mv, [.tm 35]⟩, ⟨some 37, some (36, false), .fa 4, [.tm 1]⟩, ⟨some 38, some (36, false), .ld false 1 false, [.tm 37]⟩, ⟨some 39, some (36, false), .po (.bin .lss), [.tm 38, .cn (.n .i64 0)]⟩, ⟨some 40, none, .pick, [.tm 36, .cn (.b true), .tm 39]⟩, ⟨some 41, none, .mv, [.tm 40]⟩, ⟨some 42, some (41, false), .fa 4, [.tm 1]⟩, ⟨some 43, some (41, false), .ld false 1 false, [.tm 42]⟩, ⟨some 44, some (41, false), .po (.bin .gtr), [.tm 43, .cn (.n .i64 59)]⟩, ⟨some 45, none, .pick, [.tm 41, .cn (.b true), .tm 44]⟩, ⟨some 46, none, .mv, [.tm 45]⟩, ⟨some 47, some (46, false), .fa 5, [.tm 1]⟩, ⟨some 48, some (46, false), .ld false 1 false, [.tm 47]⟩, ⟨some 49, some (46, false), .po (.bin .lss), [.tm 48, .cn (.n .i64 0)]⟩, ⟨some 50, none, .pick, [.tm 46, .cn (.b true), .tm 49]⟩, ⟨some 51, none, .mv, [.tm 50]⟩, ⟨some 52, some (51, false), .fa 5, [.tm 1]⟩, ⟨some 53, some (51, false), .ld false 1 false, [.tm 52]⟩, ⟨some 54, some (51, false), .mv, [.tm 5]⟩, ⟨some 55, some (51, false), .po (.bin .gtr), [.tm 53, .tm 54]⟩, ⟨some 56, none, .pick, [.tm 51, .cn (.b true), .tm 55]⟩, ⟨some 57, none, .mv, [.tm 56]⟩, ⟨some 58, some (57, false), .fa 6, [.tm 1]⟩, ⟨some 59, some (57, false), .ld false 1 false, [.tm 58]⟩, ⟨some 60, some (57, false), .po (.bin .lss), [.tm 59, .cn (.n .i64 0)]⟩, ⟨some 61, none, .pick, [.tm 57, .cn (.b true), .tm 60]⟩, ⟨some 62, none, .mv, [.tm 61]⟩, ⟨some 63, some (62, false), .fa 6, [.tm 1]⟩, ⟨some 64, some (62, false), .ld false 1 false, [.tm 63]⟩, ⟨some 65, some (62, false), .po (.bin .gtr), [.tm 64, .cn (.n .i64 999)]⟩, ⟨some 66, none, .pick, [.tm 62, .cn (.b true), .tm 65]⟩] [66]) (.cond (.tm 66) (.seq (.reg [⟨some 2, none, .mv, [.cn (.n .i64 4)]⟩] [2]) .ret) .skip)) (.seq (.reg [⟨some 2, none, .mv, [.cn (.n .i64 0)]⟩] [2]) .ret))))), [.tm 2]⟩
theorem of33 : Fn1.of Tryd.prog 33 ⟨false, [], false⟩ [[1], [1, 4], [1, 4, 5], [1, 4, 5, 23], [1, 4, 5], [66], [2], [2]] = some F33 := by kernel_rfl
/-- live: [1, 6, 9, 10, 11] -/
def L61_0 : SC := .seq (.reg [⟨some 12, none, .po (.bin .lss), [.tm 11, .tm 10]⟩] [1, 6, 9, 10, 11, 12]) (.seq (.cond (.tm 12) .skip (.exit 0)) (.seq (.block 1 (.seq (.reg [⟨some 13, none, .ia none 2, [.tm 9, .tm 11]⟩, ⟨some 14, none, .ld true 2 true, [.tm 13]⟩, ⟨some 8, none, .alloc [.n .i64 0, .n .i64 0], []⟩, ⟨none, none, .st 2, [.tm 8, .tm 14]⟩] [1, 6, 8, 9, 10, 11]) (.seq (.block 2 (.seq (.reg [⟨some 16, none, .fa 0, [.tm 8]⟩, ⟨some 17, none, .ld false 1 false, [.tm 16]⟩, ⟨some 18, none, .mv, [.tm 1]⟩, ⟨some 19, none, .po (.bin .eql), [.tm 17, .tm 18]⟩, ⟨some 15, none, .mv, [.tm 19]⟩] [1, 6, 8, 9, 10, 11, 15]) (.cond (.tm 15) (.seq (.dreg [⟨some 20, none, .mv, [.tm 6]⟩, ⟨some 21, none, .fa 1, [.tm 8]⟩, ⟨some 22, none, .ld false 1 false, [.tm 21]⟩, ⟨some 4, none, .mv, [.tm 20]⟩, ⟨some 5, none, .mv, [.tm 22]⟩] [] [4, 5]) .ret) (.seq (.reg [⟨some 24, none, .fa 0, [.tm 8]⟩, ⟨some 25, none, .ld false 1 false, [.tm 24]⟩, ⟨some 26, none, .mv, [.tm 1]⟩, ⟨some 27, none, .po (.bin .gtr), [.tm 25, .tm 26]⟩, ⟨some 23, none, .mv, [.tm 27]⟩] [1, 6, 8, 9, 10, 11, 23]) (.cond (.tm 23) (.seq (.reg [⟨some 28, none, .mv, [.tm 6]⟩, ⟨some 4, none, .mv, [.tm 28]⟩, ⟨some 5, none, .mv, [.cn (.n .i64 0)]⟩] [4, 5]) .ret) .skip))))) (.reg [⟨some 29, none, .mv, [.tm 6]⟩, ⟨some 30, none, .fa 1, [.tm 8]⟩, ⟨some 31, none, .ld false 1 false, [.tm 30]⟩, ⟨some 32, none, .po (.bin .add), [.tm 29, .tm 31]⟩, ⟨some 6, none, .mv, [.tm 32]⟩] [1, 6, 9, 10, 11])))) (.reg [⟨some 33, none, .po (.bin .add), [.tm 11, .cn (.n .i64 1)]⟩, ⟨some 11, none, .mv, [.tm 33]⟩] [1, 6, 9, 10, 11])))
/-- spyglass/scale.before -/
def F61 : Fn1 := ⟨35, .seq (.reg [⟨some 4, none, .mv, [.cn (.n .i64 0)]⟩, ⟨some 5, none, .mv, [.cn (.n .i64 0)]⟩] [0, 1]) (.seq (.reg [⟨some 6, none, .mv, [.cn (.n .i64 0)]⟩] [0, 1, 6]) (.seq (.seq (.reg [⟨some 9, none, .mv, [.tm 0]⟩, ⟨some 10, none, .len false, [.tm 9]⟩, ⟨some 11, none, .mv, [.cn (.n .i64 0)]⟩] [1, 6, 9, 10, 11]) (.block 0 (.loop [1, 6, 9, 10, 11] L61_0))) (.seq (.reg [⟨some 34, none, .mv, [.tm 6]⟩, ⟨some 4, none, .mv, [.tm 34]⟩, ⟨some 5, none, .mv, [.cn (.n .i64 0)]⟩] [4, 5]) .ret))), [.tm 4, .tm 5]⟩
theorem of61 : Fn1.of Tryd.prog 61 ⟨false, [], false⟩ [[0, 1], [0, 1, 6], [1, 6, 9, 10, 11], [1, 6, 9, 10, 11], [1, 6, 9, 10, 11, 12], [1, 6, 8, 9, 10, 11], [1, 6, 8, 9, 10, 11, 15], [4, 5], [1, 6, 8, 9, 10, 11, 23], [4, 5], [1, 6, 9, 10, 11], [1, 6, 9, 10, 11], [4, 5]] = some F61 := by kernel_rfl
/-- spyglass/scale.ToUniform -/
def F40 : Fn1 := ⟨76, .seq (.reg [⟨some 2, none, .box, [.tm 0]⟩, ⟨some 4, none, .mv, [.cn (.n .i64 0)]⟩, ⟨some 5, none, .mv, [.cn (.n .i64 0)]⟩] [1, 2]) (.seq (.seq (.reg [⟨some 12, none, .ld true 7 false, [.tm 2]⟩, ⟨some 13, none, .call 33, [.tm 12]⟩, ⟨some 6, none, .mv, [.tm 13]⟩] [1, 2, 6]) (.seq (.reg [⟨some 14, none, .mv, [.tm 6]⟩, ⟨some 15, none, .po (.bin .neq), [.tm 14, .cn (.n .i64 0)]⟩] [1, 2, 6, 15]) (.cond (.tm 15) (.seq (.reg [⟨some 16, none, .mv, [.tm 6]⟩, ⟨some 4, none, .mv, [.cn (.n .i64 0)]⟩, ⟨some 5, none, .mv, [.tm 16]⟩] [4, 5]) .ret) .skip))) (.seq (.seq (.reg [⟨some 17, none, .mv, [.tm 1]⟩, ⟨some 18, none, .call 59, [.tm 17]⟩, ⟨some 7, none, .mv, [.tm 18]⟩] [1, 2, 7]) (.seq (.reg [⟨some 19, none, .mv, [.tm 7]⟩, ⟨some 20, none, .po (.bin .neq), [.tm 19, .cn (.n .i64 0)]⟩] [1, 2, 7, 20]) (.cond (.tm 20) (.seq (.reg [⟨some 21, none, .mv, [.tm 7]⟩, ⟨some 4, none, .mv, [.cn (.n .i64 0)]⟩, ⟨some 5, none, .mv, [.tm 21]⟩] [4, 5]) .ret) .skip))) (.seq (.reg [⟨some 22, none, .fa 0, [.tm 2]⟩, ⟨some 23, none, .ld false 1 false, [.tm 22]⟩, ⟨some 24, none, .fa 1, [.tm 2]⟩, ⟨some 25, none, .ld false 1 false, [.tm 24]⟩, ⟨some 26, none, .fa 2, [.tm 2]⟩, ⟨some 27, none, .ld false 1 false, [.tm 26]⟩, ⟨some 28, none, .call 60, [.tm 23, .tm 25, .tm 27]⟩, ⟨some 8, none, .mv, [.tm 28]⟩] [1, 2, 8]) (.seq (.reg [⟨some 30, none, .mv, [.tm 1]⟩, ⟨some 31, none, .mv, [.tm 8]⟩, ⟨some 32, none, .call 61, [.tm 30, .tm 31]⟩, ⟨some 29, none, .mv, [.tm 32]⟩, ⟨some 33, none, .po (.ext 0), [.tm 29]⟩, ⟨some 34, none, .po (.ext 1), [.tm 29]⟩, ⟨some 9, none, .mv, [.tm 33]⟩, ⟨some 10, none, .mv, [.tm 34]⟩] [2, 8, 9, 10]) (.seq (.seq (.reg [⟨some 35, none, .fa 3, [.tm 2]⟩, ⟨some 36, none, .ld false 1 false, [.tm 35]⟩, ⟨some 37, none, .po (.bin .eql), [.tm 36, .cn (.n .i64 23)]⟩, ⟨some 38, none, .mv, [.tm 37]⟩, ⟨some 39, some (38, true), .fa 4, [.tm 2]⟩, ⟨some 40, some (38, true), .ld false 1 false, [.tm 39]⟩, ⟨some 41, some (38, true), .po (.bin .eql), [.tm 40, .cn (.n .i64 59)]⟩, ⟨some 42, none, .pick, [.tm 38, .tm 41, .cn (.b false)]⟩, ⟨some 43, none, .mv, [.tm 42]⟩, ⟨some 44, some (43, true), .fa 5, [.tm 2]⟩, ⟨some 45, some (43, true), .ld false 1 false, [.tm 44]⟩, ⟨some 46, some (43, true), .mv, [.tm 10]⟩, ⟨some 47, some (43, true), .po (.bin .add), [.cn (.n .i64 59), .tm 46]⟩, ⟨some 48, some (43, true), .po (.bin .gtr), [.tm 45, .tm 47]⟩, ⟨some 49, none, .pick, [.tm 43, .tm 48, .cn (.b false)]⟩] [2, 8, 9, 49]) (.cond (.tm 49) (.seq (.reg [⟨some 4, none, .mv, [.cn (.n .i64 0)]⟩, ⟨some 5, none, .mv, [.cn (.n .i64 8)]⟩] [4, 5]) .ret) .skip)) (.seq (.reg [⟨some 50, none, .mv, [.tm 8]⟩, ⟨some 51, none, .po (.bin .mul), [.tm 50, .cn (.n .i64 86400000)]⟩, ⟨some 52, none, .fa 3, [.tm 2]⟩, ⟨some 53, none, .ld false 1 false, [.tm 52]⟩, ⟨some 54, none, .po (.bin .mul), [.tm 53, .cn (.n .i64 60)]⟩, ⟨some 55, none, .fa 4, [.tm 2]⟩, ⟨some 56, none, .ld false 1 false, [.tm 55]⟩, ⟨some 57, none, .po (.bin .add), [.tm 54, .tm 56]⟩, ⟨some 58, none, .po (.bin .mul), [.tm 57, .cn (.n .i64 60000)]⟩, ⟨some 59, none, .po (.bin .add), [.tm 51, .tm 58]⟩, ⟨some 60, none, .fa 5, [.tm 2]⟩, ⟨some 61, none, .ld false 1 false, [.tm 60]⟩, ⟨some 62, none, .mv, [.tm 9]⟩, ⟨some 63, none, .po (.bin .add), [.tm 61, .tm 62]⟩, ⟨some 64, none, .po (.bin .mul), [.tm 63, .cn (.n .i64 1000)]⟩, ⟨some 65, none, .po (.bin .add), [.tm 59, .tm 64]⟩, ⟨some 66, none, .fa 6, [.tm 2]⟩, ⟨some 67, none, .ld false 1 false, [.tm 66]⟩, ⟨some 68, none, .po (.bin .add), [.tm 65, .tm 67]⟩, ⟨some 11, none, .mv, [.tm 68]⟩] [11]) (.seq (.seq (.reg [⟨some 69, none, .mv, [.tm 11]⟩, ⟨some 70, none, .po (.bin .lss), [.tm 69, .cn (.n .i64 (-17592186044416))]⟩, ⟨some 71, none, .mv, [.tm 70]⟩, ⟨some 72, some (71, false), .mv, [.tm 11]⟩, ⟨some 73, some (71, false), .po (.bin .gtr), [.tm 72, .cn (.n .i64 17592186044416)]⟩, ⟨some 74, none, .pick, [.tm 71, .cn (.b true), .tm 73]⟩] [11, 74]) (.cond (.tm 74) (.seq (.reg [⟨some 4, none, .mv, [.cn (.n .i64 0)]⟩, ⟨some 5, none, .mv, [.cn (.n .i64 2)]⟩] [4, 5]) .ret) .skip)) (.seq (.reg [⟨some 75, none, .mv, [.tm 11]⟩, ⟨some 4, none, .mv, [.tm 75]⟩, ⟨some 5, none, .mv, [.cn (.n .i64 0)]⟩] [4, 5]) .ret)))))))), [.tm 4, .tm 5]⟩
theorem of40 : Fn1.of Tryd.prog 40 ⟨false, [], false⟩ [[1, 2], [1, 2, 6], [1, 2, 6, 15], [4, 5], [1, 2, 7], [1, 2, 7, 20], [4, 5], [1, 2, 8], [2, 8, 9, 10], [2, 8, 9, 49], [4, 5], [11], [11, 74], [4, 5], [4, 5]] = some F40 := by kernel_rfl
theorem civilIn_ok (x most : Int) : Pure Tryd.prog 54 [.n .i64 x, .n .i64 most] (.b (decide (0 ≤ x ∧ x ≤ most))) := by
  refine pure_of_wp of54 (Nat.le_of_ble_eq_true rfl) ?_
  ((repeat' first | refine DecK.tt ?_ | refine DecK.ff ?_ | refine DecK.beq (fun _ => ?_) (fun _ => ?_) | refine DecK.bne (fun _ => ?_) (fun _ => ?_) | refine DecK.dec (fun _ => ?_) (fun _ => ?_) | refine OptK.mk _ rfl ?_ | refine endV (by rfl) ?_) <;> (try with_reducible rfl))
  all_goals refine congrArg _ ?_
  all_goals first | (simp_all; done) | (simp_all; omega)
abbrev CivilT := Int × Int × Int × Int × Int × Int × Int × Unit
abbrev civilV (y mo d h mi s ms : Int) : V := .agg [.n .i64 y, .n .i64 mo, .n .i64 d, .n .i64 h, .n .i64 mi, .n .i64 s, .n .i64 ms]
def okTime (h mi s ms : Int) : Prop := 0 ≤ h ∧ h ≤ 23 ∧ 0 ≤ mi ∧ mi ≤ 59 ∧ 0 ≤ s ∧ (s ≤ 59 ∨ (s = 60 ∧ h = 23 ∧ mi = 59)) ∧ 0 ≤ ms ∧ ms ≤ 999
instance (h mi s ms : Int) : Decidable (okTime h mi s ms) := by unfold okTime; infer_instance
def civErr (y mo d h mi s ms : Int) : Int := if okDate y mo d ∧ okTime h mi s ms then 0 else 4
theorem civErr_yes {y mo d h mi s ms : Int} (h1 : okDate y mo d) (h2 : okTime h mi s ms) : civErr y mo d h mi s ms = 0 := if_pos ⟨h1, h2⟩
theorem civErr_no1 {y mo d h mi s ms : Int} (h1 : ¬ okDate y mo d) : civErr y mo d h mi s ms = 4 := if_neg fun h => h1 h.1
theorem civErr_no2 {y mo d h mi s ms : Int} (h1 : ¬ okTime h mi s ms) : civErr y mo d h mi s ms = 4 := if_neg fun h => h1 h.2
theorem check_ok (y mo d h mi s ms : Int) : Pure Tryd.prog 33 [civilV y mo d h mi s ms] (.n .i64 (civErr y mo d h mi s ms)) := by
  refine pure_of_wp of33 (Nat.le_of_ble_eq_true rfl) ?_
  have hc := daysDate_ok y mo d
  by_cases ok : okDate y mo d
  · simp only [ok, if_true] at hc
    repeat' first | refine DecK.tt ?_ | refine DecK.ff ?_ | refine DecK.beq (fun _ => ?_) (fun _ => ?_) | refine DecK.bne (fun _ => ?_) (fun _ => ?_) | refine DecK.dec (fun _ => ?_) (fun _ => ?_) | refine OptK.mk _ rfl ?_ | refine endV (by rfl) ?_ | (refine CallK.mk _ hc rfl ?_)
    all_goals first | (exact congrArg _ (civErr_yes ok (by unfold okTime; omega)).symm) | (exact congrArg _ (civErr_no2 (by unfold okTime; omega)).symm)
  · simp only [ok, if_false] at hc
    repeat' first | refine DecK.tt ?_ | refine DecK.ff ?_ | refine DecK.beq (fun _ => ?_) (fun _ => ?_) | refine DecK.bne (fun _ => ?_) (fun _ => ?_) | refine DecK.dec (fun _ => ?_) (fun _ => ?_) | refine OptK.mk _ rfl ?_ | refine endV (by rfl) ?_ | (refine CallK.mk _ hc rfl ?_)
    all_goals exact congrArg _ (civErr_no1 ok).symm
theorem civilErr_ok (y mo d h mi s ms : Int) : Pure Tryd.prog 35 [civilV y mo d h mi s ms] (.n .i64 (civErr y mo d h mi s ms)) := by
  refine pure_of_wp of35 (Nat.le_of_ble_eq_true rfl) ?_
  have hc := dayNumber_ok y mo d
  by_cases ok : okDate y mo d
  · simp only [ok, if_true] at hc
    repeat' first | refine DecK.tt ?_ | refine DecK.ff ?_ | refine DecK.beq (fun _ => ?_) (fun _ => ?_) | refine DecK.bne (fun _ => ?_) (fun _ => ?_) | refine DecK.dec (fun _ => ?_) (fun _ => ?_) | refine OptK.mk _ rfl ?_ | refine endV (by rfl) ?_ | (refine CallK.mk _ hc rfl ?_) | (refine CallK.mk _ (civilIn_ok _ _) rfl ?_) | (refine DecK.not (DecK.dec (fun _ => ?_) (fun _ => ?_)))
    all_goals first | (exact congrArg _ (civErr_yes ok (by unfold okTime; omega)).symm) | (exact congrArg _ (civErr_no2 (by unfold okTime; omega)).symm) | (exfalso; omega)
  · simp only [ok, if_false] at hc
    repeat' first | refine DecK.tt ?_ | refine DecK.ff ?_ | refine DecK.beq (fun _ => ?_) (fun _ => ?_) | refine DecK.bne (fun _ => ?_) (fun _ => ?_) | refine DecK.dec (fun _ => ?_) (fun _ => ?_) | refine OptK.mk _ rfl ?_ | refine endV (by rfl) ?_ | (refine CallK.mk _ hc rfl ?_) | (refine CallK.mk _ (civilIn_ok _ _) rfl ?_) | (refine DecK.not (DecK.dec (fun _ => ?_) (fun _ => ?_)))
    all_goals exact congrArg _ (civErr_no1 ok).symm
/-- The sum of the steps ahead of a day, and the step at it. -/
def sumB (day : Int) : List LeapT → Int
  | [] => 0
  | x :: r => (if x.1 < day then x.2.1 else 0) + sumB day r
def stepAt (day : Int) : List LeapT → Int
  | [] => 0
  | x :: r => (if x.1 = day then x.2.1 else 0) + stepAt day r
theorem sumB_succ (day : Int) : ∀ l : List LeapT, sumB (day + 1) l = sumB day l + stepAt day l
  | [] => rfl
  | x :: r => by have := sumB_succ day r; simp only [sumB, stepAt]; omega
theorem sumB_le (day : Int) : ∀ {l : List LeapT} {last : Int}, lerr last l = 0 → -l.length ≤ sumB day l ∧ sumB day l ≤ l.length ∧ -1 ≤ stepAt day l ∧ stepAt day l ≤ 1 ∧ (day ≤ last → sumB day l = 0 ∧ stepAt day l = 0)
  | [], _, _ => by simp [sumB, stepAt]
  | x :: r, last, h => by
    unfold lerr at h
    have := sumB_le day (l := r) (last := x.1) (by omega)
    simp only [sumB, stepAt, List.length_cons]
    omega
theorem before_loop {Q : Exit → St → Prop} {l : List LeapT} {day : Int} (hl : l.length ≤ 64) (hQ : ∀ e f, e = sumB day l → f = stepAt day l → Q .ret ⟨[(4, .v (.n .i64 e)), (5, .v (.n .i64 f))], []⟩)
    (hX : ∀ e i' b, e = sumB day l → 0 = stepAt day l → Q (.exit 0) ⟨[(1, .v (.n .i64 day)), (6, .v (.n .i64 e)), (9, .v (leapsV l)), (10, .v (.n .i64 l.length)), (11, .v (.n .i64 i')), (12, .v (.b b))], []⟩) : ∀ (suf : List LeapT) (k : Nat) (i last sum : Int), i = k → l.drop k = suf → lerr last suf = 0 → sum + sumB day suf = sumB day l → stepAt day suf = stepAt day l → -k ≤ sum → sum ≤ k →
    loopW Tryd.prog [1, 6, 9, 10, 11] L61_0 Q ⟨[(1, .v (.n .i64 day)), (6, .v (.n .i64 sum)), (9, .v (leapsV l)), (10, .v (.n .i64 l.length)), (11, .v (.n .i64 i))], []⟩ := by
  intro suf
  induction suf with
  | nil =>
    intro k i last sum hi hd he h1 h2 h3 h4
    have := drop_nil hd
    refine loop_unroll ?_
    refine DecK.dec (fun h => by omega) (fun _ => ?_)
    simp only [sumB, stepAt] at h1 h2
    exact hX _ _ _ (by omega) (by omega)
  | cons x r ih =>
    intro k i last sum hi hd he h1 h2 h3 h4
    obtain ⟨hx, hd', hk, hlen⟩ := drop_step hd
    unfold lerr at he
    have hb := sumB_le day (l := r) (last := x.1) (by omega)
    simp only [sumB, stepAt] at h1 h2
    refine loop_unroll ?_
    refine DecK.dec (fun h => ?_) (fun h => by omega)
    refine OptK.mk _ (row_ia (by omega) (by omega)) ?_
    refine OptK.mk _ (row_ld (f := leapC) (fun _ => rfl) hi hx) ?_
    refine OptK.mk _ rfl ?_
    repeat' first | refine DecK.tt ?_ | refine DecK.ff ?_ | refine DecK.beq (fun _ => ?_) (fun _ => ?_) | refine DecK.bne (fun _ => ?_) (fun _ => ?_) | refine DecK.dec (fun _ => ?_) (fun _ => ?_) | refine OptK.mk _ rfl ?_ | refine endV (by rfl) ?_ | (refine hQ _ _ ?_ ?_) | (refine ih (k + 1) _ x.1 _ ?_ hd' ?_ ?_ ?_ ?_ ?_)
    all_goals (try simp (discharger := omega) only [w64, wu64, wu8, w32, wu32, tdivC, tmodC])
    all_goals omega
theorem leapsErr_zero {l : List LeapT} (h : leapsErr l = 0) : l.length ≤ 64 ∧ lerr (-4611686018427387904) l = 0 := by unfold leapsErr at h; omega
theorem before_ok {l : List LeapT} (h : leapsErr l = 0) (day : Int) : Pure Tryd.prog 61 [leapsV l, .n .i64 day] (.tup [.n .i64 (sumB day l), .n .i64 (stepAt day l)]) := by
  obtain ⟨hl, h0⟩ := leapsErr_zero h
  refine pure_of_wp of61 (Nat.le_of_ble_eq_true rfl) ?_
  refine before_loop (l := l) (day := day) hl (fun e f h1 h2 => ?_) (fun e i' b h1 h2 => ?_) l 0 _ (-4611686018427387904) _ rfl rfl h0 (by omega) rfl (by omega) (by omega)
  · refine endV (by rfl) ?_
    rw [h1, h2]
  · refine endV (by rfl) ?_
    rw [h1, h2]
def uniT (y mo d h mi s ms : Int) (l : List LeapT) : Int := 86400000 * daysV y mo d + 1000 * sumB (daysV y mo d) l + ((h * 60 + mi) * 60 + s) * 1000 + ms
def uniE (h mi s step t : Int) : Int := if h = 23 ∧ mi = 59 ∧ s > 59 + step then 8 else if t < -17592186044416 ∨ t > 17592186044416 then 2 else 0
def uniErr (y mo d h mi s ms : Int) (l : List LeapT) : Int :=
  if civErr y mo d h mi s ms ≠ 0 then civErr y mo d h mi s ms else if leapsErr l ≠ 0 then leapsErr l
  else uniE h mi s (stepAt (daysV y mo d) l) (uniT y mo d h mi s ms l)
theorem civErr_zero {y mo d h mi s ms : Int} (g : civErr y mo d h mi s ms = 0) : okDate y mo d ∧ okTime h mi s ms := by unfold civErr at g; split at g <;> simp_all
theorem okDate_bounds {y mo d : Int} (h : okDate y mo d) : -1000000 ≤ daysV y mo d ∧ daysV y mo d ≤ 9000100 := by
  have := mlen_bounds y mo
  have h1 := daysV_d y mo d
  obtain ⟨a1, a2, a3, a4, a5, a6⟩ := h
  have := month_bounds y mo (by omega) (by omega)
  omega
theorem toUniform_ok (y mo d h mi s ms : Int) (l : List LeapT) (hl : l.length ≤ 9000000000000000000) : Pure Tryd.prog 40 [civilV y mo d h mi s ms, leapsV l] (.tup [.n .i64 (if uniErr y mo d h mi s ms l = 0 then uniT y mo d h mi s ms l else 0), .n .i64 (uniErr y mo d h mi s ms l)]) := by
  refine pure_of_wp of40 (Nat.le_of_ble_eq_true rfl) ?_
  refine CallK.mk _ (check_ok y mo d h mi s ms) rfl ?_
  by_cases h1 : civErr y mo d h mi s ms = 0
  case neg =>
    refine DecK.bne (fun _ => ?_) (fun g => absurd g h1)
    refine endV (by rfl) ?_
    have e : uniErr y mo d h mi s ms l = civErr y mo d h mi s ms := by unfold uniErr; rw [if_pos h1]
    rw [e, if_neg h1]
  refine DecK.bne (fun g => absurd h1 g) (fun _ => ?_)
  refine CallK.mk _ (checkLeaps_ok l hl) rfl ?_
  by_cases h2 : leapsErr l = 0
  case neg =>
    refine DecK.bne (fun _ => ?_) (fun g => absurd g h2)
    refine endV (by rfl) ?_
    have e : uniErr y mo d h mi s ms l = leapsErr l := by unfold uniErr; rw [if_neg (by omega), if_pos h2]
    rw [e, if_neg h2]
  refine DecK.bne (fun g => absurd h2 g) (fun _ => ?_)
  obtain ⟨k1, k2⟩ := civErr_zero h1
  have k3 := okDate_bounds k1
  have hmb := mlen_bounds y mo
  unfold okDate at k1
  unfold okTime at k2
  obtain ⟨m1, m2⟩ := leapsErr_zero h2
  have k4 := sumB_le (daysV y mo d) m2
  refine CallK.mk _ (days_ok y mo d (by omega) (by omega) (by omega)) rfl ?_
  refine CallK.mk _ (before_ok h2 _) rfl ?_
  have e : uniErr y mo d h mi s ms l = uniE h mi s (stepAt (daysV y mo d) l) (uniT y mo d h mi s ms l) := by unfold uniErr; rw [if_neg (by omega), if_neg (by omega)]
  rw [e]
  have w : IntKind.i64.wrap (59 + stepAt (daysV y mo d) l) = 59 + stepAt (daysV y mo d) l := w64 (by omega)
  have wt : IntKind.i64.wrap (IntKind.i64.wrap (IntKind.i64.wrap (IntKind.i64.wrap (daysV y mo d * 86400000) + IntKind.i64.wrap (IntKind.i64.wrap (IntKind.i64.wrap (h * 60) + mi) * 60000)) + IntKind.i64.wrap (IntKind.i64.wrap (s + sumB (daysV y mo d) l) * 1000)) + ms) = uniT y mo d h mi s ms l := by
    unfold uniT; simp (discharger := omega) only [w64, wu64, wu8, w32, wu32, tdivC, tmodC]; omega
  have none : h = 23 → mi = 59 → s > 59 + stepAt (daysV y mo d) l → uniE h mi s (stepAt (daysV y mo d) l) (uniT y mo d h mi s ms l) = 8 := fun a b c => if_pos ⟨a, b, c⟩
  have fin : ¬ (h = 23 ∧ mi = 59 ∧ s > 59 + stepAt (daysV y mo d) l) → uniE h mi s (stepAt (daysV y mo d) l) (uniT y mo d h mi s ms l) = if uniT y mo d h mi s ms l < -17592186044416 ∨ uniT y mo d h mi s ms l > 17592186044416 then 2 else 0 := fun a => if_neg a
  repeat' first | refine DecK.tt ?_ | refine DecK.ff ?_ | refine DecK.beq (fun _ => ?_) (fun _ => ?_) | refine DecK.bne (fun _ => ?_) (fun _ => ?_) | refine DecK.dec (fun _ => ?_) (fun _ => ?_) | refine OptK.mk _ rfl ?_ | refine endV (by rfl) ?_
  all_goals simp only [w, wt] at *
  all_goals first
    | (rw [none (by assumption) (by assumption) (by assumption)]; rfl)
    | (rw [(fin (by omega)).trans (if_pos (by omega))]; rfl)
    | (rw [(fin (by omega)).trans (if_neg (by omega))]; rfl)
end Go.Proofs.YtljcbmnkjiogmaaDoor.Sv

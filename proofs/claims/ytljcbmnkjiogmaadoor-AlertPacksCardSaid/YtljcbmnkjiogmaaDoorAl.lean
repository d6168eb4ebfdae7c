/- Alerts: their checks, the program's and the reference's. No condition. -/
import Derived.Test.YtljcbmnkjiogmaaDoorVa
import Derived.Test.YtljcbmnkjiogmaaDoorBbTick
import Derived.Test.YtljcbmnkjiogmaaDoorBbArc
import Derived.Test.YtljcbmnkjiogmaaDoorBbQuanta
namespace Go.Proofs.YtljcbmnkjiogmaaDoor.Sv
open Go Go.RowKit
set_option linter.unusedVariables false
set_option linter.unusedSimpArgs false
set_option maxRecDepth 100000
/-- spyglass/alert.Check -/
def F17 : Fn1 := ⟨139, .seq (.reg [⟨some 1, none, .box, [.tm 0]⟩, ⟨some 2, none, .mv, [.cn (.n .i64 0)]⟩] [1]) (.seq (.seq (.reg [⟨some 4, none, .fa 0, [.tm 1]⟩, ⟨some 5, none, .ld false 1 false, [.tm 4]⟩, ⟨some 6, none, .po (.bin .lss), [.tm 5, .cn (.n .i64 1)]⟩, ⟨some 7, none, .mv, [.tm 6]⟩, ⟨some 8, some (7, false), .fa 0, [.tm 1]⟩, ⟨some 9, some (7, false), .ld false 1 false, [.tm 8]⟩, ⟨some 10, some (7, false), .po (.bin .gtr), [.tm 9, .cn (.n .i64 2147483647)]⟩, ⟨some 11, none, .pick, [.tm 7, .cn (.b true), .tm 10]⟩, ⟨some 12, none, .mv, [.tm 11]⟩, ⟨some 13, some (12, false), .fa 2, [.tm 1]⟩, ⟨some 14, some (12, false), .ld false 1 false, [.tm 13]⟩, ⟨some 15, some (12, false), .po (.bin .lss), [.tm 14, .cn (.n .i64 0)]⟩, ⟨some 16, none, .pick, [.tm 12, .cn (.b true), .tm 15]⟩, ⟨some 17, none, .mv, [.tm 16]⟩, ⟨some 18, some (17, false), .fa 2, [.tm 1]⟩, ⟨some 19, some (17, false), .ld false 1 false, [.tm 18]⟩, ⟨some 20, some (17, false), .po (.bin .gtr), [.tm 19, .cn (.n .i64 2147483647)]⟩, ⟨some 21, none, .pick, [.tm 17, .cn (.b true), .tm 20]⟩, ⟨some 22, none, .mv, [.tm 21]⟩, ⟨some 23, some (22, false), .fa 15, [.tm 1]⟩, ⟨some 24, some (22, false), .ld false 1 false, [.tm 23]⟩, ⟨some 25, some (22, false), .po (.bin .lss), [.tm 24, .cn (.n .i64 0)]⟩, ⟨some 26, none, .pick, [.tm 22, .cn (.b true), .tm 25]⟩, ⟨some 27, none, .mv, [.tm 26]⟩, ⟨some 28, some (27, false), .fa 15, [.tm 1]⟩, ⟨some 29, some (27, false), .ld false 1 false, [.tm 28]⟩, ⟨some 30, some (27, false), .po (.bin .gtr), [.tm 29, .cn (.n .i64 2147483647)]⟩, ⟨some 31, none, .pick, [.tm 27, .cn (.b true), .tm 30]⟩] [1, 31]) (.cond (.tm 31) (.seq (.reg [⟨some 2, none, .mv, [.cn (.n .i64 4)]⟩] [2]) .ret) .skip)) (.seq (.seq (.reg [⟨some 32, none, .fa 1, [.tm 1]⟩, ⟨some 33, none, .ld false 1 false, [.tm 32]⟩, ⟨some 34, none, .po (.bin .lss), [.tm 33, .cn (.n .i64 1)]⟩, ⟨some 35, none, .mv, [.tm 34]⟩, ⟨some 36, some (35, false), .fa 1, [.tm 1]⟩, ⟨some 37, some (35, false), .ld false 1 false, [.tm 36]⟩, ⟨some 38, some (35, false), .po (.bin .gtr), [.tm 37, .cn (.n .i64 6)]⟩, ⟨some 39, none, .pick, [.tm 35, .cn (.b true), .tm 38]⟩] [1, 39]) (.cond (.tm 39) (.seq (.reg [⟨some 2, none, .mv, [.cn (.n .i64 12)]⟩] [2]) .ret) .skip)) (.seq (.seq (.dreg [⟨some 40, none, .fa 3, [.tm 1]⟩, ⟨some 41, none, .ld true 3 false, [.tm 40]⟩, ⟨some 42, none, .call 42, [.tm 41]⟩, ⟨some 43, none, .fa 6, [.tm 1]⟩, ⟨some 44, none, .ld true 3 false, [.tm 43]⟩, ⟨some 45, none, .call 43, [.tm 44]⟩, ⟨some 46, none, .fa 9, [.tm 1]⟩, ⟨some 47, none, .ld true 3 false, [.tm 46]⟩, ⟨some 48, none, .call 43, [.tm 47]⟩, ⟨some 49, none, .fa 12, [.tm 1]⟩, ⟨some 50, none, .ld true 3 false, [.tm 49]⟩, ⟨some 51, none, .call 44, [.tm 50]⟩, ⟨some 52, none, .po (.bsl 4 [.n .i64 0] [(0, 1), (1, 1), (2, 1), (3, 1)]), [.tm 42, .tm 45, .tm 48, .tm 51]⟩, ⟨some 53, none, .call 41, [.tm 52]⟩, ⟨some 3, none, .mv, [.tm 53]⟩] [] [1, 3]) (.seq (.reg [⟨some 54, none, .mv, [.tm 3]⟩, ⟨some 55, none, .po (.bin .neq), [.tm 54, .cn (.n .i64 0)]⟩] [1, 3, 55]) (.cond (.tm 55) (.seq (.reg [⟨some 56, none, .mv, [.tm 3]⟩, ⟨some 2, none, .mv, [.tm 56]⟩] [2]) .ret) .skip))) (.seq (.block 0 (.seq (.reg [⟨some 58, none, .fa 3, [.tm 1]⟩, ⟨some 59, none, .fa 0, [.tm 58]⟩, ⟨some 60, none, .ld false 1 false, [.tm 59]⟩, ⟨some 61, none, .po (.bin .lss), [.tm 60, .cn (.n .i64 (-17592186044416))]⟩, ⟨some 62, none, .mv, [.tm 61]⟩, ⟨some 63, some (62, false), .fa 3, [.tm 1]⟩, ⟨some 64, some (62, false), .fa 1, [.tm 63]⟩, ⟨some 65, some (62, false), .ld false 1 false, [.tm 64]⟩, ⟨some 66, some (62, false), .po (.bin .gtr), [.tm 65, .cn (.n .i64 17592186044416)]⟩, ⟨some 67, none, .pick, [.tm 62, .cn (.b true), .tm 66]⟩, ⟨some 68, none, .mv, [.tm 67]⟩, ⟨some 69, some (68, false), .fa 9, [.tm 1]⟩, ⟨some 70, some (68, false), .fa 0, [.tm 69]⟩, ⟨some 71, some (68, false), .ld false 1 false, [.tm 70]⟩, ⟨some 72, some (68, false), .po (.bin .lss), [.tm 71, .cn (.n .i64 (-1073741824))]⟩, ⟨some 73, none, .pick, [.tm 68, .cn (.b true), .tm 72]⟩, ⟨some 74, none, .mv, [.tm 73]⟩, ⟨some 75, some (74, false), .fa 9, [.tm 1]⟩, ⟨some 76, some (74, false), .fa 1, [.tm 75]⟩, ⟨some 77, some (74, false), .ld false 1 false, [.tm 76]⟩, ⟨some 78, some (74, false), .po (.bin .gtr), [.tm 77, .cn (.n .i64 1073741824)]⟩, ⟨some 79, none, .pick, [.tm 74, .cn (.b true), .tm 78]⟩, ⟨some 57, none, .mv, [.tm 79]⟩] [1, 57]) (.cond (.tm 57) (.seq (.reg [⟨some 2, none, .mv, [.cn (.n .i64 4)]⟩] [2]) .ret) (.seq (.reg [⟨some 81, none, .fa 6, [.tm 1]⟩, ⟨some 82, none, .fa 0, [.tm 81]⟩, ⟨some 83, none, .ld false 1 false, [.tm 82]⟩, ⟨some 84, none, .po (.bin .lss), [.tm 83, .cn (.n .i64 0)]⟩, ⟨some 85, none, .mv, [.tm 84]⟩, ⟨some 86, some (85, false), .fa 6, [.tm 1]⟩, ⟨some 87, some (85, false), .fa 0, [.tm 86]⟩, ⟨some 88, some (85, false), .ld false 1 false, [.tm 87]⟩, ⟨some 89, some (85, false), .po (.bin .geq), [.tm 88, .cn (.n .i64 4294967296)]⟩, ⟨some 90, none, .pick, [.tm 85, .cn (.b true), .tm 89]⟩, ⟨some 91, none, .mv, [.tm 90]⟩, ⟨some 92, some (91, false), .fa 6, [.tm 1]⟩, ⟨some 93, some (91, false), .fa 1, [.tm 92]⟩, ⟨some 94, some (91, false), .ld false 1 false, [.tm 93]⟩, ⟨some 95, some (91, false), .fa 6, [.tm 1]⟩, ⟨some 96, some (91, false), .fa 0, [.tm 95]⟩, ⟨some 97, some (91, false), .ld false 1 false, [.tm 96]⟩, ⟨some 98, some (91, false), .po (.bin .sub), [.tm 94, .tm 97]⟩, ⟨some 99, some (91, false), .po (.bin .geq), [.tm 98, .cn (.n .i64 4294967296)]⟩, ⟨some 100, none, .pick, [.tm 91, .cn (.b true), .tm 99]⟩, ⟨some 80, none, .mv, [.tm 100]⟩] [1, 80]) (.cond (.tm 80) (.seq (.reg [⟨some 2, none, .mv, [.cn (.n .i64 4)]⟩] [2]) .ret) (.seq (.reg [⟨some 102, none, .fa 1, [.tm 1]⟩, ⟨some 103, none, .ld false 1 false, [.tm 102]⟩, ⟨some 104, none, .po (.bin .neq), [.tm 103, .cn (.n .i64 6)]⟩, ⟨some 105, none, .mv, [.tm 104]⟩, ⟨some 106, some (105, true), .fa 15, [.tm 1]⟩, ⟨some 107, some (105, true), .ld false 1 false, [.tm 106]⟩, ⟨some 108, some (105, true), .po (.bin .neq), [.tm 107, .cn (.n .i64 0)]⟩, ⟨some 109, none, .pick, [.tm 105, .tm 108, .cn (.b false)]⟩, ⟨some 101, none, .mv, [.tm 109]⟩] [1, 101]) (.cond (.tm 101) (.seq (.reg [⟨some 2, none, .mv, [.cn (.n .i64 3)]⟩] [2]) .ret) (.seq (.reg [⟨some 111, none, .fa 1, [.tm 1]⟩, ⟨some 112, none, .ld false 1 false, [.tm 111]⟩, ⟨some 113, none, .po (.bin .eql), [.tm 112, .cn (.n .i64 6)]⟩, ⟨some 114, none, .mv, [.tm 113]⟩, ⟨some 115, some (114, true), .fa 15, [.tm 1]⟩, ⟨some 116, some (114, true), .ld false 1 false, [.tm 115]⟩, ⟨some 117, some (114, true), .po (.bin .eql), [.tm 116, .cn (.n .i64 0)]⟩, ⟨some 118, some (114, true), .mv, [.tm 117]⟩, ⟨some 119, some (118, false), .fa 15, [.tm 1]⟩, ⟨some 120, some (118, false), .ld false 1 false, [.tm 119]⟩, ⟨some 121, some (118, false), .fa 0, [.tm 1]⟩, ⟨some 122, some (118, false), .ld false 1 false, [.tm 121]⟩, ⟨some 123, some (118, false), .po (.bin .eql), [.tm 120, .tm 122]⟩, ⟨some 124, some (114, true), .pick, [.tm 118, .cn (.b true), .tm 123]⟩, ⟨some 125, some (114, true), .mv, [.tm 124]⟩, ⟨some 126, some (125, false), .ld true 16 false, [.tm 1]⟩, ⟨some 127, some (125, false), .fa 0, [.tm 1]⟩, ⟨some 128, some (125, false), .ld false 1 false, [.tm 127]⟩, ⟨some 129, some (125, false), .fa 1, [.tm 1]⟩, ⟨some 130, some (125, false), .ld false 1 false, [.tm 129]⟩, ⟨some 131, some (125, false), .fa 3, [.tm 1]⟩, ⟨some 132, some (125, false), .ld true 3 false, [.tm 131]⟩, ⟨some 133, some (125, false), .fa 15, [.tm 1]⟩, ⟨some 134, some (125, false), .ld false 1 false, [.tm 133]⟩, ⟨some 135, some (125, false), .po (.build [.n .i64 0, .n .i64 0, .n .i64 0, .n .i64 0, .n .i64 0, .b false, .n .i64 0, .n .i64 0, .b false, .n .i64 0, .n .i64 0, .b false, .n .i64 0, .n .i64 0, .b false, .n .i64 0] [(0, 1), (1, 1), (3, 3), (15, 1)]), [.tm 128, .tm 130, .tm 132, .tm 134]⟩, ⟨some 136, some (125, false), .po (.veq true [(0, .n), (1, .n), (2, .n), (3, .n), (4, .n), (5, .b), (6, .n), (7, .n), (8, .b), (9, .n), (10, .n), (11, .b), (12, .n), (13, .n), (14, .b), (15, .n)]), [.tm 126, .tm 135]⟩, ⟨some 137, some (114, true), .pick, [.tm 125, .cn (.b true), .tm 136]⟩, ⟨some 138, none, .pick, [.tm 114, .tm 137, .cn (.b false)]⟩, ⟨some 110, none, .mv, [.tm 138]⟩] [110]) (.cond (.tm 110) (.seq (.reg [⟨some 2, none, .mv, [.cn (.n .i64 3)]⟩] [2]) .ret) .skip))))))))) (.seq (.reg [⟨some 2, none, .mv, [.cn (.n .i64 0)]⟩] [2]) .ret))))), [.tm 2]⟩
theorem of17 : Fn1.of Tryd.prog 17 ⟨false, [], false⟩ [[1], [1, 31], [2], [1, 39], [2], [1, 3], [1, 3, 55], [2], [1, 57], [2], [1, 80], [2], [1, 101], [2], [110], [2], [2]] = some F17 := by kernel_rfl
/-- live: [1, 46, 47, 48] -/
def L9_0 : SC := .seq (.reg [⟨some 49, none, .po (.bin .lss), [.tm 48, .tm 47]⟩] [1, 46, 47, 48, 49]) (.seq (.cond (.tm 49) .skip (.exit 0)) (.seq (.block 1 (.seq (.reg [⟨some 50, none, .ia none 1, [.tm 46, .tm 48]⟩, ⟨some 51, none, .ld false 1 true, [.tm 50]⟩, ⟨some 4, none, .mv, [.tm 51]⟩] [1, 4, 46, 47, 48]) (.seq (.reg [⟨some 52, none, .mv, [.tm 4]⟩, ⟨some 53, none, .po (.bin .neq), [.tm 52, .cn (.n .i64 0)]⟩] [1, 4, 46, 47, 48, 53]) (.cond (.tm 53) (.seq (.reg [⟨some 54, none, .mv, [.tm 4]⟩, ⟨some 2, none, .mv, [.tm 54]⟩] [2]) .ret) .skip)))) (.reg [⟨some 55, none, .po (.bin .add), [.tm 48, .cn (.n .i64 1)]⟩, ⟨some 48, none, .mv, [.tm 55]⟩] [1, 46, 47, 48])))
/-- spyglass/spyref1.AlertErr -/
def F9 : Fn1 := ⟨141, .seq (.reg [⟨some 1, none, .box, [.tm 0]⟩, ⟨some 2, none, .mv, [.cn (.n .i64 0)]⟩] [1]) (.seq (.seq (.reg [⟨some 5, none, .fa 0, [.tm 1]⟩, ⟨some 6, none, .ld false 1 false, [.tm 5]⟩, ⟨some 7, none, .po (.bin .lss), [.tm 6, .cn (.n .i64 1)]⟩, ⟨some 8, none, .mv, [.tm 7]⟩, ⟨some 9, some (8, false), .fa 0, [.tm 1]⟩, ⟨some 10, some (8, false), .ld false 1 false, [.tm 9]⟩, ⟨some 11, some (8, false), .fa 2, [.tm 1]⟩, ⟨some 12, some (8, false), .ld false 1 false, [.tm 11]⟩, ⟨some 13, some (8, false), .fa 15, [.tm 1]⟩, ⟨some 14, some (8, false), .ld false 1 false, [.tm 13]⟩, ⟨some 15, some (8, false), .po .mx, [.tm 10, .tm 12, .tm 14]⟩, ⟨some 16, some (8, false), .po (.bin .gtr), [.tm 15, .cn (.n .i64 2147483647)]⟩, ⟨some 17, none, .pick, [.tm 8, .cn (.b true), .tm 16]⟩, ⟨some 18, none, .mv, [.tm 17]⟩, ⟨some 19, some (18, false), .fa 2, [.tm 1]⟩, ⟨some 20, some (18, false), .ld false 1 false, [.tm 19]⟩, ⟨some 21, some (18, false), .fa 15, [.tm 1]⟩, ⟨some 22, some (18, false), .ld false 1 false, [.tm 21]⟩, ⟨some 23, some (18, false), .po .mn, [.tm 20, .tm 22]⟩, ⟨some 24, some (18, false), .po (.bin .lss), [.tm 23, .cn (.n .i64 0)]⟩, ⟨some 25, none, .pick, [.tm 18, .cn (.b true), .tm 24]⟩] [1, 25]) (.cond (.tm 25) (.seq (.reg [⟨some 2, none, .mv, [.cn (.n .i64 4)]⟩] [2]) .ret) .skip)) (.seq (.seq (.reg [⟨some 26, none, .fa 1, [.tm 1]⟩, ⟨some 27, none, .ld false 1 false, [.tm 26]⟩, ⟨some 28, none, .po (.bin .gtr), [.tm 27, .cn (.n .i64 6)]⟩, ⟨some 29, none, .mv, [.tm 28]⟩, ⟨some 30, some (29, false), .fa 1, [.tm 1]⟩, ⟨some 31, some (29, false), .ld false 1 false, [.tm 30]⟩, ⟨some 32, some (29, false), .po (.bin .lss), [.tm 31, .cn (.n .i64 1)]⟩, ⟨some 33, none, .pick, [.tm 29, .cn (.b true), .tm 32]⟩] [1, 33]) (.cond (.tm 33) (.seq (.reg [⟨some 2, none, .mv, [.cn (.n .i64 12)]⟩] [2]) .ret) .skip)) (.seq (.seq (.dreg [⟨some 34, none, .fa 3, [.tm 1]⟩, ⟨some 35, none, .ld true 3 false, [.tm 34]⟩, ⟨some 36, none, .call 24, [.tm 35]⟩, ⟨some 37, none, .fa 6, [.tm 1]⟩, ⟨some 38, none, .ld true 3 false, [.tm 37]⟩, ⟨some 39, none, .call 25, [.tm 38]⟩, ⟨some 40, none, .fa 9, [.tm 1]⟩, ⟨some 41, none, .ld true 3 false, [.tm 40]⟩, ⟨some 42, none, .call 25, [.tm 41]⟩, ⟨some 43, none, .fa 12, [.tm 1]⟩, ⟨some 44, none, .ld true 3 false, [.tm 43]⟩, ⟨some 45, none, .call 26, [.tm 44]⟩, ⟨some 46, none, .po (.bsl 4 [.n .i64 0] [(0, 1), (1, 1), (2, 1), (3, 1)]), [.tm 36, .tm 39, .tm 42, .tm 45]⟩, ⟨some 47, none, .len false, [.tm 46]⟩, ⟨some 48, none, .mv, [.cn (.n .i64 0)]⟩] [] [1, 46, 47, 48]) (.block 0 (.loop [1, 46, 47, 48] L9_0))) (.seq (.seq (.reg [⟨some 56, none, .fa 3, [.tm 1]⟩, ⟨some 57, none, .fa 0, [.tm 56]⟩, ⟨some 58, none, .ld false 1 false, [.tm 57]⟩, ⟨some 59, none, .call 27, [.tm 58]⟩, ⟨some 60, none, .po (.un .not), [.tm 59]⟩, ⟨some 61, none, .mv, [.tm 60]⟩, ⟨some 62, some (61, false), .fa 3, [.tm 1]⟩, ⟨some 63, some (61, false), .fa 1, [.tm 62]⟩, ⟨some 64, some (61, false), .ld false 1 false, [.tm 63]⟩, ⟨some 65, some (61, false), .call 27, [.tm 64]⟩, ⟨some 66, some (61, false), .po (.un .not), [.tm 65]⟩, ⟨some 67, none, .pick, [.tm 61, .cn (.b true), .tm 66]⟩, ⟨some 68, none, .mv, [.tm 67]⟩, ⟨some 69, some (68, false), .fa 9, [.tm 1]⟩, ⟨some 70, some (68, false), .fa 1, [.tm 69]⟩, ⟨some 71, some (68, false), .ld false 1 false, [.tm 70]⟩, ⟨some 72, some (68, false), .po (.bin .gtr), [.tm 71, .cn (.n .i64 1073741824)]⟩, ⟨some 73, none, .pick, [.tm 68, .cn (.b true), .tm 72]⟩, ⟨some 74, none, .mv, [.tm 73]⟩, ⟨some 75, some (74, false), .fa 9, [.tm 1]⟩, ⟨some 76, some (74, false), .fa 0, [.tm 75]⟩, ⟨some 77, some (74, false), .ld false 1 false, [.tm 76]⟩, ⟨some 78, some (74, false), .po (.bin .lss), [.tm 77, .cn (.n .i64 (-1073741824))]⟩, ⟨some 79, none, .pick, [.tm 74, .cn (.b true), .tm 78]⟩, ⟨some 80, none, .mv, [.tm 79]⟩, ⟨some 81, some (80, false), .fa 6, [.tm 1]⟩, ⟨some 82, some (80, false), .fa 0, [.tm 81]⟩, ⟨some 83, some (80, false), .ld false 1 false, [.tm 82]⟩, ⟨some 84, some (80, false), .po (.bin .geq), [.tm 83, .cn (.n .i64 4294967296)]⟩, ⟨some 85, none, .pick, [.tm 80, .cn (.b true), .tm 84]⟩, ⟨some 86, none, .mv, [.tm 85]⟩, ⟨some 87, some (86, false), .fa 6, [.tm 1]⟩, ⟨some 88, some (86, false), .fa 0, [.tm 87]⟩, ⟨some 89, some (86, false), .ld false 1 false, [.tm 88]⟩, ⟨some 90, some (86, false), .po (.bin .lss), [.tm 89, .cn (.n .i64 0)]⟩, ⟨some 91, none, .pick, [.tm 86, .cn (.b true), .tm 90]⟩, ⟨some 92, none, .mv, [.tm 91]⟩, ⟨some 93, some (92, false), .fa 6, [.tm 1]⟩, ⟨some 94, some (92, false), .fa 1, [.tm 93]⟩, ⟨some 95, some (92, false), .ld false 1 false, [.tm 94]⟩, ⟨some 96, some (92, false), .fa 6, [.tm 1]⟩, ⟨some 97, some (92, false), .fa 0, [.tm 96]⟩, ⟨some 98, some (92, false), .ld false 1 false, [.tm 97]⟩, ⟨some 99, some (92, false), .po (.bin .add), [.tm 98, .cn (.n .i64 4294967296)]⟩, ⟨some 100, some (92, false), .po (.bin .geq), [.tm 95, .tm 99]⟩, ⟨some 101, none, .pick, [.tm 92, .cn (.b true), .tm 100]⟩] [1, 101]) (.cond (.tm 101) (.seq (.reg [⟨some 2, none, .mv, [.cn (.n .i64 4)]⟩] [2]) .ret) .skip)) (.seq (.seq (.reg [⟨some 102, none, .fa 1, [.tm 1]⟩, ⟨some 103, none, .ld false 1 false, [.tm 102]⟩, ⟨some 104, none, .po (.bin .lss), [.tm 103, .cn (.n .i64 6)]⟩] [1, 104]) (.cond (.tm 104) (.seq (.seq (.reg [⟨some 105, none, .fa 15, [.tm 1]⟩, ⟨some 106, none, .ld false 1 false, [.tm 105]⟩, ⟨some 107, none, .po (.bin .neq), [.tm 106, .cn (.n .i64 0)]⟩] [107]) (.cond (.tm 107) (.seq (.reg [⟨some 2, none, .mv, [.cn (.n .i64 3)]⟩] [2]) .ret) .skip)) (.seq (.reg [⟨some 2, none, .mv, [.cn (.n .i64 0)]⟩] [2]) .ret)) .skip)) (.seq (.seq (.reg [⟨some 108, none, .fa 15, [.tm 1]⟩, ⟨some 109, none, .ld false 1 false, [.tm 108]⟩, ⟨some 110, none, .po (.bin .eql), [.tm 109, .cn (.n .i64 0)]⟩, ⟨some 111, none, .mv, [.tm 110]⟩, ⟨some 112, some (111, false), .fa 15, [.tm 1]⟩, ⟨some 113, some (111, false), .ld false 1 false, [.tm 112]⟩, ⟨some 114, some (111, false), .fa 0, [.tm 1]⟩, ⟨some 115, some (111, false), .ld false 1 false, [.tm 114]⟩, ⟨some 116, some (111, false), .po (.bin .eql), [.tm 113, .tm 115]⟩, ⟨some 117, none, .pick, [.tm 111, .cn (.b true), .tm 116]⟩, ⟨some 118, none, .mv, [.tm 117]⟩, ⟨some 119, some (118, false), .fa 2, [.tm 1]⟩, ⟨some 120, some (118, false), .ld false 1 false, [.tm 119]⟩, ⟨some 121, some (118, false), .po (.bin .neq), [.tm 120, .cn (.n .i64 0)]⟩, ⟨some 122, none, .pick, [.tm 118, .cn (.b true), .tm 121]⟩, ⟨some 123, none, .mv, [.tm 122]⟩, ⟨some 124, some (123, false), .fa 6, [.tm 1]⟩, ⟨some 125, some (123, false), .ld true 3 false, [.tm 124]⟩, ⟨some 126, some (123, false), .po (.build [.n .i64 0, .n .i64 0, .b false] []), []⟩, ⟨some 127, some (123, false), .po (.veq true [(0, .n), (1, .n), (2, .b)]), [.tm 125, .tm 126]⟩, ⟨some 128, none, .pick, [.tm 123, .cn (.b true), .tm 127]⟩, ⟨some 129, none, .mv, [.tm 128]⟩, ⟨some 130, some (129, false), .fa 9, [.tm 1]⟩, ⟨some 131, some (129, false), .ld true 3 false, [.tm 130]⟩, ⟨some 132, some (129, false), .po (.build [.n .i64 0, .n .i64 0, .b false] []), []⟩, ⟨some 133, some (129, false), .po (.veq true [(0, .n), (1, .n), (2, .b)]), [.tm 131, .tm 132]⟩, ⟨some 134, none, .pick, [.tm 129, .cn (.b true), .tm 133]⟩, ⟨some 135, none, .mv, [.tm 134]⟩, ⟨some 136, some (135, false), .fa 12, [.tm 1]⟩, ⟨some 137, some (135, false), .ld true 3 false, [.tm 136]⟩, ⟨some 138, some (135, false), .po (.build [.n .i64 0, .n .i64 0, .b false] []), []⟩, ⟨some 139, some (135, false), .po (.veq true [(0, .n), (1, .n), (2, .b)]), [.tm 137, .tm 138]⟩, ⟨some 140, none, .pick, [.tm 135, .cn (.b true), .tm 139]⟩] [140]) (.cond (.tm 140) (.seq (.reg [⟨some 2, none, .mv, [.cn (.n .i64 3)]⟩] [2]) .ret) .skip)) (.seq (.reg [⟨some 2, none, .mv, [.cn (.n .i64 0)]⟩] [2]) .ret))))))), [.tm 2]⟩
theorem of9 : Fn1.of Tryd.prog 9 ⟨false, [], false⟩ [[1], [1, 25], [2], [1, 33], [2], [1, 46, 47, 48], [1, 46, 47, 48], [1, 46, 47, 48, 49], [1, 4, 46, 47, 48], [1, 4, 46, 47, 48, 53], [2], [1, 46, 47, 48], [1, 101], [2], [1, 104], [107], [2], [2], [140], [2], [2]] = some F9 := by kernel_rfl
/-- spyglass/spyref1.InTime -/
def F27 : Fn1 := ⟨9, .seq (.reg [⟨some 2, none, .mv, [.cn (.b false)]⟩] [0]) (.seq (.reg [⟨some 3, none, .mv, [.tm 0]⟩, ⟨some 4, none, .po (.bin .leq), [.tm 3, .cn (.n .i64 17592186044416)]⟩, ⟨some 5, none, .mv, [.tm 4]⟩, ⟨some 6, some (5, true), .mv, [.tm 0]⟩, ⟨some 7, some (5, true), .po (.bin .geq), [.tm 6, .cn (.n .i64 (-17592186044416))]⟩, ⟨some 8, none, .pick, [.tm 5, .tm 7, .cn (.b false)]⟩, ⟨some 2, none, .mv, [.tm 8]⟩] [2]) .ret), [.tm 2]⟩
theorem of27 : Fn1.of Tryd.prog 27 ⟨false, [], false⟩ [[0], [2]] = some F27 := by kernel_rfl
/-- spyglass/spylaw1.faded -/
def F22 : Fn1 := ⟨15, .seq (.reg [⟨some 6, none, .alloc [.n .i64 0, .n .i64 0, .n .i64 0, .n .i64 0, .n .i64 0, .b false, .n .i64 0, .n .i64 0, .b false, .n .i64 0, .n .i64 0, .b false, .n .i64 0, .n .i64 0, .b false, .n .i64 0], []⟩] [0, 1, 2, 6]) (.seq (.reg [⟨some 7, none, .mv, [.tm 0]⟩, ⟨some 8, none, .po (.build [.n .i64 0, .n .i64 0, .b false] [(0, 1), (1, 1)]), [.cn (.n .i64 5), .cn (.n .i64 6)]⟩, ⟨some 9, none, .po (.build [.n .i64 0, .n .i64 0, .b false] [(0, 1), (1, 1)]), [.cn (.n .i64 1), .cn (.n .i64 2)]⟩, ⟨some 10, none, .po (.build [.n .i64 0, .n .i64 0, .b false] [(0, 1)]), [.cn (.n .i64 (-1))]⟩, ⟨some 11, none, .mv, [.tm 1]⟩, ⟨some 12, none, .mv, [.tm 2]⟩, ⟨some 13, none, .po (.build [.n .i64 0, .n .i64 0, .b false] [(0, 1), (1, 1)]), [.tm 11, .tm 12]⟩, ⟨some 14, none, .po (.build [.n .i64 0, .n .i64 0, .n .i64 0, .n .i64 0, .n .i64 0, .b false, .n .i64 0, .n .i64 0, .b false, .n .i64 0, .n .i64 0, .b false, .n .i64 0, .n .i64 0, .b false, .n .i64 0] [(0, 1), (1, 1), (2, 1), (3, 3), (6, 3), (9, 3), (12, 3)]), [.tm 7, .cn (.n .i64 3), .cn (.n .i64 4), .tm 8, .tm 9, .tm 10, .tm 13]⟩, ⟨none, none, .st 16, [.tm 6, .tm 14]⟩] [6]) .ret), [.cell 6 true 16]⟩
theorem of22 : Fn1.of Tryd.prog 22 ⟨false, [], false⟩ [[0, 1, 2, 6], [6]] = some F22 := by kernel_rfl
/-- An alert's cells. -/
abbrev alC (i k o t0 t1 : Int) (tu : Bool) (r0 r1 : Int) (ru : Bool) (d0 d1 : Int) (du : Bool) (q0 q1 : Int) (qu : Bool) (f : Int) : List V :=
  [.n .i64 i, .n .i64 k, .n .i64 o, .n .i64 t0, .n .i64 t1, .b tu, .n .i64 r0, .n .i64 r1, .b ru, .n .i64 d0, .n .i64 d1, .b du, .n .i64 q0, .n .i64 q1, .b qu, .n .i64 f]
/-- The last look at an alert that goes before another. -/
def alEnd (i o r0 r1 : Int) (ru : Bool) (d0 d1 : Int) (du : Bool) (q0 q1 : Int) (qu : Bool) (f : Int) : Int :=
  if f = 0 ∨ f = i ∨ ¬ (o = 0 ∧ (r0 = 0 ∧ r1 = 0 ∧ ru = false) ∧ (d0 = 0 ∧ d1 = 0 ∧ du = false) ∧ (q0 = 0 ∧ q1 = 0 ∧ qu = false)) then 3 else 0
/-- The first fault of an alert. -/
def alErr (i k o t0 t1 : Int) (tu : Bool) (r0 r1 : Int) (ru : Bool) (d0 d1 : Int) (du : Bool) (q0 q1 : Int) (qu : Bool) (f : Int) : Int :=
  if i < 1 ∨ i > 2147483647 ∨ o < 0 ∨ o > 2147483647 ∨ f < 0 ∨ f > 2147483647 then 4
  else if k < 1 ∨ k > 6 then 12
  else if or0 [bErr t0 t1 tu, bErr r0 r1 ru, bErr d0 d1 du, bErr q0 q1 qu] ≠ 0 then or0 [bErr t0 t1 tu, bErr r0 r1 ru, bErr d0 d1 du, bErr q0 q1 qu]
  else if t0 < -17592186044416 ∨ t1 > 17592186044416 ∨ d0 < -1073741824 ∨ d1 > 1073741824 ∨ r0 < 0 ∨ r0 ≥ 4294967296 ∨ r1 - r0 ≥ 4294967296 then 4
  else if k ≠ 6 then (if f ≠ 0 then 3 else 0)
  else alEnd i o r0 r1 ru d0 d1 du q0 q1 qu f
theorem inTime_ok (t : Int) : Pure Tryd.prog 27 [.n .i64 t] (.b (decide (-17592186044416 ≤ t ∧ t ≤ 17592186044416))) := by
  refine pure_of_wp of27 (Nat.le_of_ble_eq_true rfl) ?_
  ((repeat' first | refine DecK.tt ?_ | refine DecK.ff ?_ | refine DecK.beq (fun _ => ?_) (fun _ => ?_) | refine DecK.bne (fun _ => ?_) (fun _ => ?_) | refine DecK.dec (fun _ => ?_) (fun _ => ?_) | refine OptK.mk _ rfl ?_ | refine endV (by rfl) ?_) <;> (try with_reducible rfl))
  all_goals simp
  all_goals omega
theorem neB {objs : List (Nat × List V)} (x y a b : Int) (u v : Bool) : (SO.po (.veq true [(0, .n), (1, .n), (2, .b)])).rdx objs [.v (.agg [.n .i64 x, .n .i64 y, .b u]), .v (.agg [.n .i64 a, .n .i64 b, .b v])] = some (.v (.b (!decide (x = a ∧ y = b ∧ u = v)))) := by
  simp [SO.rdx, SO.rd, allV, PO.run, veqV, eqLv, eqk]
  by_cases h1 : x = a <;> by_cases h2 : y = b <;> cases u <;> cases v <;> simp [h1, h2]
theorem neAl {objs : List (Nat × List V)} (i k o t0 t1 : Int) (tu : Bool) (r0 r1 : Int) (ru : Bool) (d0 d1 : Int) (du : Bool) (q0 q1 : Int) (qu : Bool) (f : Int) :
    (SO.po (.veq true [(0, .n), (1, .n), (2, .n), (3, .n), (4, .n), (5, .b), (6, .n), (7, .n), (8, .b), (9, .n), (10, .n), (11, .b), (12, .n), (13, .n), (14, .b), (15, .n)])).rdx objs [.v (.agg (alC i k o t0 t1 tu r0 r1 ru d0 d1 du q0 q1 qu f)), .v (.agg (alC i k 0 t0 t1 tu 0 0 false 0 0 false 0 0 false f))] =
    some (.v (.b (!decide (o = 0 ∧ (r0 = 0 ∧ r1 = 0 ∧ ru = false) ∧ (d0 = 0 ∧ d1 = 0 ∧ du = false) ∧ (q0 = 0 ∧ q1 = 0 ∧ qu = false))))) := by
  have e : ∀ a b : Bool, (a == b) = decide (a = b) := by decide
  simp only [SO.rdx, SO.rd, allV, PO.run, veqV, eqLv, Option.map_some, Option.bind_some, List.getElem?_cons_zero, List.getElem?_cons_succ, eqk, if_true]
  refine congrArg (fun b => some (D.v (V.b b))) ?_
  rw [Bool.eq_iff_iff]
  simp [or_assoc]
theorem bErr_0 {lo hi : Int} {u : Bool} (h : bErr lo hi u = 0) : -1152921504606846976 ≤ lo ∧ lo ≤ hi ∧ hi ≤ 1152921504606846976 := by
  unfold bErr at h
  split at h
  · omega
  · split at h
    · omega
    · split at h <;> omega
theorem or0_4 {a b c d : Int} (h : or0 [a, b, c, d] = 0) : a = 0 ∧ b = 0 ∧ c = 0 ∧ d = 0 := by
  simp only [or0] at h
  split at h <;> (try split at h) <;> (try split at h) <;> (try split at h) <;> omega
set_option maxHeartbeats 1000000 in
theorem check_ok (i k o t0 t1 : Int) (tu : Bool) (r0 r1 : Int) (ru : Bool) (d0 d1 : Int) (du : Bool) (q0 q1 : Int) (qu : Bool) (f : Int) :
    Pure Tryd.prog 17 [.agg (alC i k o t0 t1 tu r0 r1 ru d0 d1 du q0 q1 qu f)] (.n .i64 (alErr i k o t0 t1 tu r0 r1 ru d0 d1 du q0 q1 qu f)) := by
  refine pure_of_wp of17 (Nat.le_of_ble_eq_true rfl) ?_
  by_cases h1 : i < 1 ∨ i > 2147483647 ∨ o < 0 ∨ o > 2147483647 ∨ f < 0 ∨ f > 2147483647
  · rw [alErr, if_pos h1]
    repeat' first | (refine DecK.tt ?_) | (refine DecK.ff ?_) | (refine DecK.dec (fun _ => ?_) (fun _ => ?_)) | (refine DecK.beq (fun _ => ?_) (fun _ => ?_)) | (refine DecK.bne (fun _ => ?_) (fun _ => ?_))
    all_goals try (exfalso; omega)
    all_goals rfl
  iterate 6 first | (refine DecK.no (decide_eq_false (by omega)) ?_) | (refine DecK.yes (decide_eq_true (by omega)) ?_) | (refine DecK.no (beq_eq_false_iff_ne.2 (by omega)) ?_) | (refine DecK.yes (beq_iff_eq.2 (by omega)) ?_) | (refine DecK.yes (bne_iff_ne.2 (by omega)) ?_) | (refine DecK.no (bne_eq_false_iff_eq.2 (by omega)) ?_) | (refine DecK.tt ?_) | (refine DecK.ff ?_)
  by_cases h2 : k < 1 ∨ k > 6
  · rw [alErr, if_neg h1, if_pos h2]
    repeat' first | (refine DecK.tt ?_) | (refine DecK.ff ?_) | (refine DecK.dec (fun _ => ?_) (fun _ => ?_)) | (refine DecK.beq (fun _ => ?_) (fun _ => ?_)) | (refine DecK.bne (fun _ => ?_) (fun _ => ?_))
    all_goals try (exfalso; omega)
    all_goals rfl
  iterate 2 first | (refine DecK.no (decide_eq_false (by omega)) ?_) | (refine DecK.yes (decide_eq_true (by omega)) ?_) | (refine DecK.no (beq_eq_false_iff_ne.2 (by omega)) ?_) | (refine DecK.yes (beq_iff_eq.2 (by omega)) ?_) | (refine DecK.yes (bne_iff_ne.2 (by omega)) ?_) | (refine DecK.no (bne_eq_false_iff_eq.2 (by omega)) ?_) | (refine DecK.tt ?_) | (refine DecK.ff ?_)
  refine CallK.mk _ (checkTick t0 t1 tu) rfl ?_
  refine CallK.mk _ (checkArc r0 r1 ru) rfl ?_
  refine CallK.mk _ (checkArc d0 d1 du) rfl ?_
  refine CallK.mk _ (checkQuanta q0 q1 qu) rfl ?_
  refine CallK.mk _ (orE_ok [bErr t0 t1 tu, bErr r0 r1 ru, bErr d0 d1 du, bErr q0 q1 qu] true (by simp)) rfl ?_
  by_cases h3 : or0 [bErr t0 t1 tu, bErr r0 r1 ru, bErr d0 d1 du, bErr q0 q1 qu] = 0
  case neg =>
    rw [alErr, if_neg h1, if_neg h2, if_pos h3]
    refine DecK.yes (bne_iff_ne.2 h3) ?_
    rfl
  obtain ⟨e1, e2, e3, e4⟩ := or0_4 h3
  have b2 := bErr_0 e2
  refine DecK.no (bne_eq_false_iff_eq.2 h3) ?_
  by_cases h4 : t0 < -17592186044416 ∨ t1 > 17592186044416 ∨ d0 < -1073741824 ∨ d1 > 1073741824 ∨ r0 < 0 ∨ r0 ≥ 4294967296 ∨ r1 - r0 ≥ 4294967296
  · rw [alErr, if_neg h1, if_neg h2, if_neg (show ¬ (or0 [bErr t0 t1 tu, bErr r0 r1 ru, bErr d0 d1 du, bErr q0 q1 qu] ≠ 0) from fun h => h h3), if_pos h4]
    have w := w64 (n := r1 - r0) (by omega)
    repeat' first | (refine DecK.tt ?_) | (refine DecK.ff ?_) | (refine DecK.dec (fun _ => ?_) (fun _ => ?_)) | (refine DecK.beq (fun _ => ?_) (fun _ => ?_)) | (refine DecK.bne (fun _ => ?_) (fun _ => ?_))
    all_goals try (rename_i g; rw [w] at g)
    all_goals try (exfalso; omega)
    all_goals rfl
  have w := w64 (n := r1 - r0) (by omega)
  iterate 6 first | (refine DecK.no (decide_eq_false (by omega)) ?_) | (refine DecK.yes (decide_eq_true (by omega)) ?_) | (refine DecK.no (beq_eq_false_iff_ne.2 (by omega)) ?_) | (refine DecK.yes (beq_iff_eq.2 (by omega)) ?_) | (refine DecK.yes (bne_iff_ne.2 (by omega)) ?_) | (refine DecK.no (bne_eq_false_iff_eq.2 (by omega)) ?_) | (refine DecK.tt ?_) | (refine DecK.ff ?_)
  rw [alErr, if_neg h1, if_neg h2, if_neg (show ¬ (or0 [bErr t0 t1 tu, bErr r0 r1 ru, bErr d0 d1 du, bErr q0 q1 qu] ≠ 0) from fun h => h h3), if_neg h4]
  refine DecK.dec (fun g => absurd (w ▸ g) (by omega)) (fun _ => ?_)
  by_cases h5 : k ≠ 6
  · rw [if_pos h5]
    first | (refine DecK.no (decide_eq_false (by omega)) ?_) | (refine DecK.yes (decide_eq_true (by omega)) ?_) | (refine DecK.no (beq_eq_false_iff_ne.2 (by omega)) ?_) | (refine DecK.yes (beq_iff_eq.2 (by omega)) ?_) | (refine DecK.yes (bne_iff_ne.2 (by omega)) ?_) | (refine DecK.no (bne_eq_false_iff_eq.2 (by omega)) ?_) | (refine DecK.tt ?_) | (refine DecK.ff ?_)
    by_cases h6 : f ≠ 0
    · rw [if_pos h6]
      refine DecK.yes (bne_iff_ne.2 h6) ?_
      rfl
    · rw [if_neg h6]
      refine DecK.no (bne_eq_false_iff_eq.2 (by omega)) ?_
      refine DecK.no (beq_eq_false_iff_ne.2 h5) ?_
      refine DecK.ff ?_
      rfl
  rw [if_neg h5]
  refine DecK.no (bne_eq_false_iff_eq.2 (by omega)) ?_
  refine DecK.ff ?_
  refine DecK.yes (beq_iff_eq.2 (by omega)) ?_
  by_cases h6 : f = 0
  · rw [show alEnd i o r0 r1 ru d0 d1 du q0 q1 qu f = 3 from if_pos (.inl h6)]
    refine DecK.yes (beq_iff_eq.2 h6) ?_
    refine DecK.tt ?_
    refine DecK.tt ?_
    rfl
  refine DecK.no (beq_eq_false_iff_ne.2 h6) ?_
  by_cases h7 : f = i
  · rw [show alEnd i o r0 r1 ru d0 d1 du q0 q1 qu f = 3 from if_pos (.inr (.inl h7))]
    refine DecK.yes (beq_iff_eq.2 h7) ?_
    refine DecK.tt ?_
    rfl
  refine DecK.no (beq_eq_false_iff_ne.2 h7) ?_
  refine OptK.mk _ (neAl i k o t0 t1 tu r0 r1 ru d0 d1 du q0 q1 qu f) ?_
  by_cases h8 : o = 0 ∧ (r0 = 0 ∧ r1 = 0 ∧ ru = false) ∧ (d0 = 0 ∧ d1 = 0 ∧ du = false) ∧ (q0 = 0 ∧ q1 = 0 ∧ qu = false)
  · rw [show alEnd i o r0 r1 ru d0 d1 du q0 q1 qu f = 0 from if_neg (fun h => h.elim h6 fun h => h.elim h7 fun h => h h8)]
    refine DecK.no (by rw [decide_eq_true h8]; rfl) ?_
    rfl
  · rw [show alEnd i o r0 r1 ru d0 d1 du q0 q1 qu f = 3 from if_pos (.inr (.inr h8))]
    refine DecK.yes (by rw [decide_eq_false h8]; rfl) ?_
    rfl
/-- The reference's. -/
theorem alertErr_ok (i k o t0 t1 : Int) (tu : Bool) (r0 r1 : Int) (ru : Bool) (d0 d1 : Int) (du : Bool) (q0 q1 : Int) (qu : Bool) (f : Int) :
    Pure Tryd.prog 9 [.agg (alC i k o t0 t1 tu r0 r1 ru d0 d1 du q0 q1 qu f)] (.n .i64 (alErr i k o t0 t1 tu r0 r1 ru d0 d1 du q0 q1 qu f)) := by
  refine pure_of_wp of9 (Nat.le_of_ble_eq_true rfl) ?_
  by_cases h1 : i < 1 ∨ i > 2147483647 ∨ o < 0 ∨ o > 2147483647 ∨ f < 0 ∨ f > 2147483647
  · rw [alErr, if_pos h1]
    refine DecK.dec (fun _ => ?_) (fun _ => ?_)
    · refine DecK.tt ?_
      refine DecK.tt ?_
      rfl
    refine DecK.dec (fun _ => ?_) (fun _ => ?_)
    · refine DecK.tt ?_
      rfl
    refine DecK.yes (decide_eq_true (by omega)) ?_
    rfl
  refine DecK.no (decide_eq_false (by omega)) ?_
  refine DecK.no (decide_eq_false (by omega)) ?_
  refine DecK.no (decide_eq_false (by omega)) ?_
  by_cases h2 : k < 1 ∨ k > 6
  · rw [alErr, if_neg h1, if_pos h2]
    refine DecK.dec (fun _ => ?_) (fun _ => ?_)
    · refine DecK.tt ?_
      rfl
    refine DecK.yes (decide_eq_true (by omega)) ?_
    rfl
  refine DecK.no (decide_eq_false (by omega)) ?_
  refine DecK.no (decide_eq_false (by omega)) ?_
  refine CallK.mk _ (boundErrTick t0 t1 tu) rfl ?_
  refine CallK.mk _ (boundErrArc r0 r1 ru) rfl ?_
  refine CallK.mk _ (boundErrArc d0 d1 du) rfl ?_
  refine CallK.mk _ (boundErrQuanta q0 q1 qu) rfl ?_
  rw [alErr, if_neg h1, if_neg h2]
  have b2 := bErr_0 (lo := r0) (hi := r1) (u := ru)
  have b1 := bErr_0 (lo := t0) (hi := t1) (u := tu)
  generalize bErr t0 t1 tu = e1 at *
  generalize bErr r0 r1 ru = e2 at *
  generalize bErr d0 d1 du = e3 at *
  generalize bErr q0 q1 qu = e4 at *
  by_cases h3 : or0 [e1, e2, e3, e4] = 0
  case neg =>
    rw [if_pos h3]
    refine loop_unroll ?_
    refine DecK.tt ?_
    refine OptK.mk _ (ria 0 rfl (by decide)) ?_
    refine OptK.mk _ rfl ?_
    by_cases g1 : e1 = 0
    case neg =>
      rw [show or0 [e1, e2, e3, e4] = e1 by simp [or0, g1]]
      refine DecK.yes (bne_iff_ne.2 g1) ?_
      rfl
    refine DecK.no (bne_eq_false_iff_eq.2 g1) ?_
    refine loop_unroll ?_
    refine DecK.tt ?_
    refine OptK.mk _ (ria 1 rfl (by decide)) ?_
    refine OptK.mk _ rfl ?_
    by_cases g2 : e2 = 0
    case neg =>
      rw [show or0 [e1, e2, e3, e4] = e2 by simp [or0, g1, g2]]
      refine DecK.yes (bne_iff_ne.2 g2) ?_
      rfl
    refine DecK.no (bne_eq_false_iff_eq.2 g2) ?_
    refine loop_unroll ?_
    refine DecK.tt ?_
    refine OptK.mk _ (ria 2 rfl (by decide)) ?_
    refine OptK.mk _ rfl ?_
    by_cases g3 : e3 = 0
    case neg =>
      rw [show or0 [e1, e2, e3, e4] = e3 by simp [or0, g1, g2, g3]]
      refine DecK.yes (bne_iff_ne.2 g3) ?_
      rfl
    refine DecK.no (bne_eq_false_iff_eq.2 g3) ?_
    refine loop_unroll ?_
    refine DecK.tt ?_
    refine OptK.mk _ (ria 3 rfl (by decide)) ?_
    refine OptK.mk _ rfl ?_
    have g4 : e4 ≠ 0 := fun g => h3 (by simp [or0, g1, g2, g3, g])
    rw [show or0 [e1, e2, e3, e4] = e4 by simp [or0, g1, g2, g3, g4]]
    refine DecK.yes (bne_iff_ne.2 g4) ?_
    rfl
  obtain ⟨g1, g2, g3, g4⟩ := or0_4 h3
  subst g1 g2 g3 g4
  have b2 := b2 rfl
  have b1 := b1 rfl
  rw [if_neg (show ¬ (or0 [0, 0, 0, 0] ≠ 0) by decide)]
  refine loop_unroll ?_
  refine DecK.tt ?_
  refine OptK.mk _ (ria 0 rfl (by decide)) ?_
  refine OptK.mk _ rfl ?_
  refine DecK.no rfl ?_
  refine loop_unroll ?_
  refine DecK.tt ?_
  refine OptK.mk _ (ria 1 rfl (by decide)) ?_
  refine OptK.mk _ rfl ?_
  refine DecK.no rfl ?_
  refine loop_unroll ?_
  refine DecK.tt ?_
  refine OptK.mk _ (ria 2 rfl (by decide)) ?_
  refine OptK.mk _ rfl ?_
  refine DecK.no rfl ?_
  refine loop_unroll ?_
  refine DecK.tt ?_
  refine OptK.mk _ (ria 3 rfl (by decide)) ?_
  refine OptK.mk _ rfl ?_
  refine DecK.no rfl ?_
  refine loop_unroll ?_
  refine DecK.ff ?_
  refine CallK.mk _ (inTime_ok t0) rfl ?_
  have w : r0 < 4294967296 → IntKind.i64.wrap (r0 + 4294967296) = r0 + 4294967296 := fun h => w64 (by omega)
  by_cases h4 : t0 < -17592186044416 ∨ t1 > 17592186044416 ∨ d0 < -1073741824 ∨ d1 > 1073741824 ∨ r0 < 0 ∨ r0 ≥ 4294967296 ∨ r1 - r0 ≥ 4294967296
  · rw [if_pos h4]
    by_cases k1 : -17592186044416 ≤ t0 ∧ t0 ≤ 17592186044416
    case neg =>
      refine DecK.yes (by rw [decide_eq_false k1]; rfl) ?_
      repeat' (refine DecK.tt ?_)
      rfl
    refine DecK.no (by rw [decide_eq_true k1]; rfl) ?_
    refine CallK.mk _ (inTime_ok t1) rfl ?_
    by_cases k2 : -17592186044416 ≤ t1 ∧ t1 ≤ 17592186044416
    case neg =>
      refine DecK.yes (by rw [decide_eq_false k2]; rfl) ?_
      repeat' (refine DecK.tt ?_)
      rfl
    refine DecK.no (by rw [decide_eq_true k2]; rfl) ?_
    refine DecK.dec (fun _ => ?_) (fun _ => ?_)
    · repeat' (refine DecK.tt ?_)
      rfl
    refine DecK.dec (fun _ => ?_) (fun _ => ?_)
    · repeat' (refine DecK.tt ?_)
      rfl
    refine DecK.dec (fun _ => ?_) (fun _ => ?_)
    · repeat' (refine DecK.tt ?_)
      rfl
    refine DecK.dec (fun _ => ?_) (fun _ => ?_)
    · repeat' (refine DecK.tt ?_)
      rfl
    refine DecK.yes (decide_eq_true (by rw [w (by omega)]; omega)) ?_
    rfl
  rw [if_neg h4]
  have k1 : -17592186044416 ≤ t0 ∧ t0 ≤ 17592186044416 := by omega
  have k2 : -17592186044416 ≤ t1 ∧ t1 ≤ 17592186044416 := by omega
  refine DecK.no (by rw [decide_eq_true k1]; rfl) ?_
  refine CallK.mk _ (inTime_ok t1) rfl ?_
  refine DecK.no (by rw [decide_eq_true k2]; rfl) ?_
  refine DecK.no (decide_eq_false (by omega)) ?_
  refine DecK.no (decide_eq_false (by omega)) ?_
  refine DecK.no (decide_eq_false (by omega)) ?_
  refine DecK.no (decide_eq_false (by omega)) ?_
  refine DecK.no (decide_eq_false (by rw [w (by omega)]; omega)) ?_
  by_cases h5 : k ≠ 6
  · rw [if_pos h5]
    refine DecK.yes (decide_eq_true (by omega)) ?_
    by_cases h6 : f ≠ 0
    · rw [if_pos h6]
      refine DecK.yes (bne_iff_ne.2 h6) ?_
      rfl
    · rw [if_neg h6]
      refine DecK.no (bne_eq_false_iff_eq.2 (by omega)) ?_
      rfl
  rw [if_neg h5]
  refine DecK.no (decide_eq_false (by omega)) ?_
  have h3' : ∀ {g : Prop}, (g → f = 0 ∨ f = i ∨ ¬ (o = 0 ∧ (r0 = 0 ∧ r1 = 0 ∧ ru = false) ∧ (d0 = 0 ∧ d1 = 0 ∧ du = false) ∧ (q0 = 0 ∧ q1 = 0 ∧ qu = false))) → g → alEnd i o r0 r1 ru d0 d1 du q0 q1 qu f = 3 := fun h g => if_pos (h g)
  by_cases h6 : f = 0
  · rw [h3' (fun h => .inl h) h6]
    refine DecK.yes (beq_iff_eq.2 h6) ?_
    repeat' (refine DecK.tt ?_)
    rfl
  refine DecK.no (beq_eq_false_iff_ne.2 h6) ?_
  by_cases h7 : f = i
  · rw [h3' (fun h => .inr (.inl h)) h7]
    refine DecK.yes (beq_iff_eq.2 h7) ?_
    repeat' (refine DecK.tt ?_)
    rfl
  refine DecK.no (beq_eq_false_iff_ne.2 h7) ?_
  by_cases h8 : o = 0
  case neg =>
    rw [h3' (fun h => .inr (.inr fun g => h g.1)) h8]
    refine DecK.yes (bne_iff_ne.2 h8) ?_
    repeat' (refine DecK.tt ?_)
    rfl
  refine DecK.no (bne_eq_false_iff_eq.2 h8) ?_
  refine OptK.mk _ (neB r0 r1 0 0 ru false) ?_
  by_cases h9 : r0 = 0 ∧ r1 = 0 ∧ ru = false
  case neg =>
    rw [h3' (fun h => .inr (.inr fun g => h g.2.1)) h9]
    refine DecK.yes (by rw [decide_eq_false h9]; rfl) ?_
    repeat' (refine DecK.tt ?_)
    rfl
  refine DecK.no (by rw [decide_eq_true h9]; rfl) ?_
  refine OptK.mk _ (neB d0 d1 0 0 du false) ?_
  by_cases h10 : d0 = 0 ∧ d1 = 0 ∧ du = false
  case neg =>
    rw [h3' (fun h => .inr (.inr fun g => h g.2.2.1)) h10]
    refine DecK.yes (by rw [decide_eq_false h10]; rfl) ?_
    repeat' (refine DecK.tt ?_)
    rfl
  refine DecK.no (by rw [decide_eq_true h10]; rfl) ?_
  refine OptK.mk _ (neB q0 q1 0 0 qu false) ?_
  by_cases h11 : q0 = 0 ∧ q1 = 0 ∧ qu = false
  case neg =>
    rw [h3' (fun h => .inr (.inr fun g => h g.2.2.2)) h11]
    refine DecK.yes (by rw [decide_eq_false h11]; rfl) ?_
    repeat' (refine DecK.tt ?_)
    rfl
  refine DecK.no (by rw [decide_eq_true h11]; rfl) ?_
  rw [show alEnd i o r0 r1 ru d0 d1 du q0 q1 qu f = 0 from if_neg (fun h => h.elim h6 fun h => h.elim h7 fun h => h ⟨h8, h9, h10, h11⟩)]
  rfl
end Go.Proofs.YtljcbmnkjiogmaaDoor.Sv

/- Clocks that are set by an exchange. No condition. -/
import Derived.Test.YtdceakejbnolpaaCb
import Derived.Test.YtdceakejbnolpaaBcTick
namespace Go.Proofs.Ytdceakejbnolpaa.Sv
open Go Go.RowKit
set_option linter.unusedVariables false
set_option linter.unusedSimpArgs false
set_option maxRecDepth 100000
/-- spyglass/clock.Sync -/
def F35 : Fn1 := ⟨83, .seq (.reg [⟨some 4, none, .box, [.tm 0]⟩, ⟨some 7, none, .box, [.tm 3]⟩, ⟨some 8, none, .alloc [.n .i64 0, .n .i64 0, .n .i64 0, .b false, .n .i64 0], []⟩, ⟨some 9, none, .mv, [.cn (.n .i64 0)]⟩] [1, 2, 4, 7, 8]) (.seq (.seq (.reg [⟨some 18, none, .ld true 5 false, [.tm 4]⟩, ⟨some 19, none, .call 75, [.tm 18]⟩, ⟨some 10, none, .mv, [.tm 19]⟩] [1, 2, 4, 7, 8, 10]) (.seq (.reg [⟨some 20, none, .mv, [.tm 10]⟩, ⟨some 21, none, .po (.bin .neq), [.tm 20, .cn (.n .i64 0)]⟩] [1, 2, 4, 7, 8, 10, 21]) (.cond (.tm 21) (.seq (.reg [⟨some 22, none, .po (.build [.n .i64 0, .n .i64 0, .n .i64 0, .b false, .n .i64 0] []), []⟩, ⟨some 23, none, .mv, [.tm 10]⟩, ⟨none, none, .st 5, [.tm 8, .tm 22]⟩, ⟨some 9, none, .mv, [.tm 23]⟩] [8, 9]) .ret) .skip))) (.seq (.block 0 (.seq (.reg [⟨some 25, none, .mv, [.tm 1]⟩, ⟨some 26, none, .call 72, [.tm 25]⟩, ⟨some 27, none, .po (.un .not), [.tm 26]⟩, ⟨some 28, none, .mv, [.tm 27]⟩, ⟨some 29, some (28, false), .mv, [.tm 2]⟩, ⟨some 30, some (28, false), .call 72, [.tm 29]⟩, ⟨some 31, some (28, false), .po (.un .not), [.tm 30]⟩, ⟨some 32, none, .pick, [.tm 28, .cn (.b true), .tm 31]⟩, ⟨some 24, none, .mv, [.tm 32]⟩] [1, 2, 4, 7, 8, 24]) (.cond (.tm 24) (.seq (.reg [⟨some 33, none, .po (.build [.n .i64 0, .n .i64 0, .n .i64 0, .b false, .n .i64 0] []), []⟩, ⟨none, none, .st 5, [.tm 8, .tm 33]⟩, ⟨some 9, none, .mv, [.cn (.n .i64 4)]⟩] [8, 9]) .ret) (.seq (.reg [⟨some 35, none, .mv, [.tm 1]⟩, ⟨some 36, none, .fa 0, [.tm 4]⟩, ⟨some 37, none, .ld false 1 false, [.tm 36]⟩, ⟨some 38, none, .po (.bin .lss), [.tm 35, .tm 37]⟩, ⟨some 39, none, .mv, [.tm 38]⟩, ⟨some 40, some (39, false), .mv, [.tm 2]⟩, ⟨some 41, some (39, false), .mv, [.tm 1]⟩, ⟨some 42, some (39, false), .po (.bin .lss), [.tm 40, .tm 41]⟩, ⟨some 43, none, .pick, [.tm 39, .cn (.b true), .tm 42]⟩, ⟨some 34, none, .mv, [.tm 43]⟩] [1, 2, 4, 7, 8, 34]) (.cond (.tm 34) (.seq (.reg [⟨some 44, none, .po (.build [.n .i64 0, .n .i64 0, .n .i64 0, .b false, .n .i64 0] []), []⟩, ⟨none, none, .st 5, [.tm 8, .tm 44]⟩, ⟨some 9, none, .mv, [.cn (.n .i64 11)]⟩] [8, 9]) .ret) .skip))))) (.seq (.reg [⟨some 46, none, .mv, [.tm 2]⟩, ⟨some 47, none, .mv, [.tm 1]⟩, ⟨some 48, none, .po (.bin .sub), [.tm 46, .tm 47]⟩, ⟨some 49, none, .po (.bin .add), [.tm 48, .cn (.n .i64 1)]⟩, ⟨some 50, none, .fa 4, [.tm 4]⟩, ⟨some 51, none, .ld false 1 false, [.tm 50]⟩, ⟨some 52, none, .po (.bin .sub), [.cn (.n .i64 1000000), .tm 51]⟩, ⟨some 53, none, .call 76, [.tm 49, .cn (.n .i64 1000000), .tm 52]⟩, ⟨some 45, none, .mv, [.tm 53]⟩, ⟨some 54, none, .po (.ext 0), [.tm 45]⟩, ⟨some 55, none, .po (.ext 1), [.tm 45]⟩, ⟨some 11, none, .mv, [.tm 54]⟩, ⟨some 12, none, .mv, [.tm 55]⟩] [2, 4, 7, 8, 11]) (.seq (.dreg [⟨some 56, none, .ld true 3 false, [.tm 7]⟩, ⟨some 57, none, .mv, [.tm 11]⟩, ⟨some 58, none, .call 78, [.cn (.n .i64 0), .tm 57]⟩, ⟨some 59, none, .call 77, [.tm 56, .tm 58]⟩, ⟨some 13, none, .alloc [.n .i64 0, .n .i64 0, .b false], []⟩, ⟨none, none, .st 3, [.tm 13, .tm 59]⟩] [] [2, 4, 8, 13]) (.seq (.dreg [⟨some 61, none, .ld true 3 false, [.tm 13]⟩, ⟨some 62, none, .ld true 5 false, [.tm 4]⟩, ⟨some 63, none, .mv, [.tm 2]⟩, ⟨some 64, none, .call 74, [.tm 62, .tm 63]⟩, ⟨some 65, none, .call 79, [.tm 61, .tm 64]⟩, ⟨some 60, none, .mv, [.tm 65]⟩, ⟨some 66, none, .po (.ext 0), [.tm 60]⟩, ⟨some 67, none, .po (.ext 1), [.tm 60]⟩, ⟨some 14, none, .alloc [.n .i64 0, .n .i64 0, .b false], []⟩, ⟨none, none, .st 3, [.tm 14, .tm 66]⟩, ⟨some 15, none, .mv, [.tm 67]⟩] [(7, 9)] [2, 4, 8, 14, 15]) (.seq (.seq (.reg [⟨some 68, none, .mv, [.tm 15]⟩, ⟨some 69, none, .po (.un .not), [.tm 68]⟩] [2, 4, 8, 14, 69]) (.cond (.tm 69) (.seq (.reg [⟨some 70, none, .po (.build [.n .i64 0, .n .i64 0, .n .i64 0, .b false, .n .i64 0] []), []⟩, ⟨none, none, .st 5, [.tm 8, .tm 70]⟩, ⟨some 9, none, .mv, [.cn (.n .i64 15)]⟩] [8, 9]) .ret) .skip)) (.seq (.reg [⟨some 71, none, .mv, [.tm 2]⟩, ⟨some 72, none, .ld true 3 false, [.tm 14]⟩, ⟨some 73, none, .fa 4, [.tm 4]⟩, ⟨some 74, none, .ld false 1 false, [.tm 73]⟩, ⟨some 75, none, .po (.build [.n .i64 0, .n .i64 0, .n .i64 0, .b false, .n .i64 0] [(0, 1), (1, 3), (4, 1)]), [.tm 71, .tm 72, .tm 74]⟩, ⟨some 16, none, .alloc [.n .i64 0, .n .i64 0, .n .i64 0, .b false, .n .i64 0], []⟩, ⟨none, none, .st 5, [.tm 16, .tm 75]⟩] [8, 16]) (.seq (.seq (.reg [⟨some 76, none, .ld true 5 false, [.tm 16]⟩, ⟨some 77, none, .call 75, [.tm 76]⟩, ⟨some 17, none, .mv, [.tm 77]⟩] [8, 16, 17]) (.seq (.reg [⟨some 78, none, .mv, [.tm 17]⟩, ⟨some 79, none, .po (.bin .neq), [.tm 78, .cn (.n .i64 0)]⟩] [8, 16, 17, 79]) (.cond (.tm 79) (.seq (.reg [⟨some 80, none, .po (.build [.n .i64 0, .n .i64 0, .n .i64 0, .b false, .n .i64 0] []), []⟩, ⟨some 81, none, .mv, [.tm 17]⟩, ⟨none, none, .st 5, [.tm 8, .tm 80]⟩, ⟨some 9, none, .mv, [.tm 81]⟩] [8, 9]) .ret) .skip))) (.seq (.reg [⟨some 82, none, .ld true 5 false, [.tm 16]⟩, ⟨none, none, .st 5, [.tm 8, .tm 82]⟩, ⟨some 9, none, .mv, [.cn (.n .i64 0)]⟩] [8, 9]) .ret))))))))), [.cell 8 true 5, .tm 9]⟩
theorem of35 : Fn1.of Try.prog 35 ⟨false, [], false⟩ [[1, 2, 4, 7, 8], [1, 2, 4, 7, 8, 10], [1, 2, 4, 7, 8, 10, 21], [8, 9], [1, 2, 4, 7, 8, 24], [8, 9], [1, 2, 4, 7, 8, 34], [8, 9], [2, 4, 7, 8, 11], [2, 4, 8, 13], [2, 4, 8, 14, 15], [2, 4, 8, 14, 69], [8, 9], [8, 16], [8, 16, 17], [8, 16, 17, 79], [8, 9], [8, 9]] = some F35 := by kernel_rfl
/-- spyglass/spyref1.Synced -/
def F36 : Fn1 := ⟨116, .seq (.reg [⟨some 4, none, .box, [.tm 0]⟩, ⟨some 7, none, .box, [.tm 3]⟩, ⟨some 8, none, .alloc [.n .i64 0, .n .i64 0, .n .i64 0, .b false, .n .i64 0], []⟩, ⟨some 9, none, .mv, [.cn (.n .i64 0)]⟩] [1, 2, 4, 7, 8]) (.seq (.seq (.reg [⟨some 17, none, .ld true 5 false, [.tm 4]⟩, ⟨some 18, none, .call 80, [.tm 17]⟩, ⟨some 10, none, .mv, [.tm 18]⟩] [1, 2, 4, 7, 8, 10]) (.seq (.reg [⟨some 19, none, .mv, [.tm 10]⟩, ⟨some 20, none, .po (.bin .neq), [.tm 19, .cn (.n .i64 0)]⟩] [1, 2, 4, 7, 8, 10, 20]) (.cond (.tm 20) (.seq (.reg [⟨some 21, none, .po (.build [.n .i64 0, .n .i64 0, .n .i64 0, .b false, .n .i64 0] []), []⟩, ⟨some 22, none, .mv, [.tm 10]⟩, ⟨none, none, .st 5, [.tm 8, .tm 21]⟩, ⟨some 9, none, .mv, [.tm 22]⟩] [8, 9]) .ret) .skip))) (.seq (.seq (.reg [⟨some 23, none, .mv, [.tm 1]⟩, ⟨some 24, none, .call 73, [.tm 23]⟩, ⟨some 25, none, .po (.un .not), [.tm 24]⟩, ⟨some 26, none, .mv, [.tm 25]⟩, ⟨some 27, some (26, false), .mv, [.tm 2]⟩, ⟨some 28, some (26, false), .call 73, [.tm 27]⟩, ⟨some 29, some (26, false), .po (.un .not), [.tm 28]⟩, ⟨some 30, none, .pick, [.tm 26, .cn (.b true), .tm 29]⟩] [1, 2, 4, 7, 8, 30]) (.cond (.tm 30) (.seq (.reg [⟨some 31, none, .po (.build [.n .i64 0, .n .i64 0, .n .i64 0, .b false, .n .i64 0] []), []⟩, ⟨none, none, .st 5, [.tm 8, .tm 31]⟩, ⟨some 9, none, .mv, [.cn (.n .i64 4)]⟩] [8, 9]) .ret) .skip)) (.seq (.seq (.reg [⟨some 32, none, .mv, [.tm 1]⟩, ⟨some 33, none, .fa 0, [.tm 4]⟩, ⟨some 34, none, .ld false 1 false, [.tm 33]⟩, ⟨some 35, none, .po (.bin .lss), [.tm 32, .tm 34]⟩, ⟨some 36, none, .mv, [.tm 35]⟩, ⟨some 37, some (36, false), .mv, [.tm 2]⟩, ⟨some 38, some (36, false), .mv, [.tm 1]⟩, ⟨some 39, some (36, false), .po (.bin .lss), [.tm 37, .tm 38]⟩, ⟨some 40, none, .pick, [.tm 36, .cn (.b true), .tm 39]⟩] [1, 2, 4, 7, 8, 40]) (.cond (.tm 40) (.seq (.reg [⟨some 41, none, .po (.build [.n .i64 0, .n .i64 0, .n .i64 0, .b false, .n .i64 0] []), []⟩, ⟨none, none, .st 5, [.tm 8, .tm 41]⟩, ⟨some 9, none, .mv, [.cn (.n .i64 11)]⟩] [8, 9]) .ret) .skip)) (.seq (.dreg [⟨some 42, none, .mv, [.tm 2]⟩, ⟨some 43, none, .ld true 5 false, [.tm 4]⟩, ⟨some 44, none, .mv, [.tm 2]⟩, ⟨some 45, none, .call 81, [.tm 43, .tm 44]⟩, ⟨some 46, none, .fa 4, [.tm 4]⟩, ⟨some 47, none, .ld false 1 false, [.tm 46]⟩, ⟨some 48, none, .po (.build [.n .i64 0, .n .i64 0, .n .i64 0, .b false, .n .i64 0] [(0, 1), (1, 3), (4, 1)]), [.tm 42, .tm 45, .tm 47]⟩, ⟨some 11, none, .alloc [.n .i64 0, .n .i64 0, .n .i64 0, .b false, .n .i64 0], []⟩, ⟨none, none, .st 5, [.tm 11, .tm 48]⟩] [] [1, 2, 4, 7, 8, 11]) (.seq (.seq (.reg [⟨some 50, none, .ld true 3 false, [.tm 7]⟩, ⟨some 51, none, .call 82, [.tm 50]⟩, ⟨some 49, none, .mv, [.tm 51]⟩, ⟨some 52, none, .po (.ext 0), [.tm 49]⟩, ⟨some 53, none, .po (.ext 1), [.tm 49]⟩, ⟨some 54, none, .po (.ext 2), [.tm 49]⟩, ⟨some 12, none, .alloc [.b false, .sl 0 [] true], []⟩, ⟨some 13, none, .alloc [.b false, .sl 0 [] true], []⟩, ⟨none, none, .st 2, [.tm 12, .tm 52]⟩, ⟨none, none, .st 2, [.tm 13, .tm 53]⟩, ⟨some 14, none, .mv, [.tm 54]⟩] [1, 2, 4, 8, 11, 12, 13, 14]) (.seq (.reg [⟨some 55, none, .mv, [.tm 14]⟩] [1, 2, 4, 8, 11, 12, 13, 55]) (.cond (.tm 55) (.seq (.dreg [⟨some 56, none, .ld true 2 false, [.tm 12]⟩, ⟨some 57, none, .ld true 2 false, [.tm 13]⟩, ⟨some 58, none, .mv, [.tm 2]⟩, ⟨some 59, none, .mv, [.tm 1]⟩, ⟨some 60, none, .po (.bin .sub), [.tm 58, .tm 59]⟩, ⟨some 61, none, .po (.bin .add), [.tm 60, .cn (.n .i64 1)]⟩, ⟨some 62, none, .fa 4, [.tm 4]⟩, ⟨some 63, none, .ld false 1 false, [.tm 62]⟩, ⟨some 64, none, .po (.bin .sub), [.cn (.n .i64 1000000), .tm 63]⟩, ⟨some 65, none, .call 84, [.tm 61, .cn (.n .i64 1000000), .tm 64, .cn (.b true)]⟩, ⟨some 66, none, .call 22, [.tm 57, .tm 65]⟩, ⟨some 67, none, .call 83, [.tm 56, .tm 66]⟩, ⟨some 15, none, .alloc [.n .i64 0, .n .i64 0, .b false], []⟩, ⟨none, none, .st 3, [.tm 15, .tm 67]⟩] [] [8, 11, 15]) (.block 0 (.seq (.reg [⟨some 85, none, .fa 2, [.tm 15]⟩, ⟨some 86, none, .ld false 1 false, [.tm 85]⟩, ⟨some 84, none, .mv, [.tm 86]⟩] [8, 11, 15, 84]) (.cond (.tm 84) .skip (.seq (.reg [⟨some 88, none, .fa 1, [.tm 11]⟩, ⟨some 89, none, .fa 2, [.tm 88]⟩, ⟨some 90, none, .ld false 1 false, [.tm 89]⟩, ⟨some 87, none, .mv, [.tm 90]⟩] [8, 11, 15, 87]) (.cond (.tm 87) (.reg [⟨some 91, none, .ld true 3 false, [.tm 15]⟩, ⟨some 92, none, .fa 1, [.tm 11]⟩, ⟨none, none, .st 3, [.tm 92, .tm 91]⟩] [8, 11]) (.seq (.reg [⟨some 94, none, .fa 0, [.tm 15]⟩, ⟨some 95, none, .ld false 1 false, [.tm 94]⟩, ⟨some 96, none, .fa 1, [.tm 11]⟩, ⟨some 97, none, .fa 1, [.tm 96]⟩, ⟨some 98, none, .ld false 1 false, [.tm 97]⟩, ⟨some 99, none, .po (.bin .gtr), [.tm 95, .tm 98]⟩, ⟨some 100, none, .mv, [.tm 99]⟩, ⟨some 101, some (100, false), .fa 1, [.tm 11]⟩, ⟨some 102, some (100, false), .fa 0, [.tm 101]⟩, ⟨some 103, some (100, false), .ld false 1 false, [.tm 102]⟩, ⟨some 104, some (100, false), .fa 1, [.tm 15]⟩, ⟨some 105, some (100, false), .ld false 1 false, [.tm 104]⟩, ⟨some 106, some (100, false), .po (.bin .gtr), [.tm 103, .tm 105]⟩, ⟨some 107, none, .pick, [.tm 100, .cn (.b true), .tm 106]⟩, ⟨some 93, none, .mv, [.tm 107]⟩] [8, 11, 15, 93]) (.cond (.tm 93) (.seq (.reg [⟨some 108, none, .po (.build [.n .i64 0, .n .i64 0, .n .i64 0, .b false, .n .i64 0] []), []⟩, ⟨none, none, .st 5, [.tm 8, .tm 108]⟩, ⟨some 9, none, .mv, [.cn (.n .i64 15)]⟩] [8, 9]) .ret) (.dreg [⟨some 68, none, .fa 1, [.tm 11]⟩, ⟨some 69, none, .fa 0, [.tm 68]⟩, ⟨some 70, none, .ld false 1 false, [.tm 69]⟩, ⟨some 71, none, .fa 0, [.tm 15]⟩, ⟨some 72, none, .ld false 1 false, [.tm 71]⟩, ⟨some 73, none, .po .mx, [.tm 70, .tm 72]⟩, ⟨some 74, none, .fa 1, [.tm 11]⟩, ⟨some 75, none, .fa 1, [.tm 74]⟩, ⟨some 76, none, .ld false 1 false, [.tm 75]⟩, ⟨some 77, none, .fa 1, [.tm 15]⟩, ⟨some 78, none, .ld false 1 false, [.tm 77]⟩, ⟨some 79, none, .po .mn, [.tm 76, .tm 78]⟩, ⟨some 80, none, .fa 1, [.tm 11]⟩, ⟨some 81, none, .fa 0, [.tm 80]⟩, ⟨none, none, .st 1, [.tm 81, .tm 73]⟩, ⟨some 82, none, .fa 1, [.tm 11]⟩, ⟨some 83, none, .fa 1, [.tm 82]⟩, ⟨none, none, .st 1, [.tm 83, .tm 79]⟩] [(9, 14), (10, 14), (11, 14)] [8, 11]))))))))) .skip))) (.seq (.seq (.reg [⟨some 109, none, .ld true 5 false, [.tm 11]⟩, ⟨some 110, none, .call 80, [.tm 109]⟩, ⟨some 16, none, .mv, [.tm 110]⟩] [8, 11, 16]) (.seq (.reg [⟨some 111, none, .mv, [.tm 16]⟩, ⟨some 112, none, .po (.bin .neq), [.tm 111, .cn (.n .i64 0)]⟩] [8, 11, 16, 112]) (.cond (.tm 112) (.seq (.reg [⟨some 113, none, .po (.build [.n .i64 0, .n .i64 0, .n .i64 0, .b false, .n .i64 0] []), []⟩, ⟨some 114, none, .mv, [.tm 16]⟩, ⟨none, none, .st 5, [.tm 8, .tm 113]⟩, ⟨some 9, none, .mv, [.tm 114]⟩] [8, 9]) .ret) .skip))) (.seq (.reg [⟨some 115, none, .ld true 5 false, [.tm 11]⟩, ⟨none, none, .st 5, [.tm 8, .tm 115]⟩, ⟨some 9, none, .mv, [.cn (.n .i64 0)]⟩] [8, 9]) .ret))))))), [.cell 8 true 5, .tm 9]⟩
theorem of36 : Fn1.of Try.prog 36 ⟨false, [], false⟩ [[1, 2, 4, 7, 8], [1, 2, 4, 7, 8, 10], [1, 2, 4, 7, 8, 10, 20], [8, 9], [1, 2, 4, 7, 8, 30], [8, 9], [1, 2, 4, 7, 8, 40], [8, 9], [1, 2, 4, 7, 8, 11], [1, 2, 4, 8, 11, 12, 13, 14], [1, 2, 4, 8, 11, 12, 13, 55], [8, 11, 15], [8, 11, 15, 84], [8, 11, 15, 87], [8, 11], [8, 11, 15, 93], [8, 9], [8, 11], [8, 11, 16], [8, 11, 16, 112], [8, 9], [8, 9]] = some F36 := by kernel_rfl
/-- spyglass/spylaw1.ClockSyncs -/
def F7 : Fn1 := ⟨40, .seq (.reg [⟨some 4, none, .box, [.tm 0]⟩, ⟨some 7, none, .box, [.tm 3]⟩, ⟨some 8, none, .mv, [.cn (.b false)]⟩] [1, 2, 4, 7]) (.seq (.reg [⟨some 14, none, .ld true 5 false, [.tm 4]⟩, ⟨some 15, none, .mv, [.tm 1]⟩, ⟨some 16, none, .mv, [.tm 2]⟩, ⟨some 17, none, .ld true 3 false, [.tm 7]⟩, ⟨some 18, none, .call 35, [.tm 14, .tm 15, .tm 16, .tm 17]⟩, ⟨some 13, none, .mv, [.tm 18]⟩, ⟨some 19, none, .po (.ext 0), [.tm 13]⟩, ⟨some 20, none, .po (.ext 1), [.tm 13]⟩, ⟨some 9, none, .alloc [.n .i64 0, .n .i64 0, .n .i64 0, .b false, .n .i64 0], []⟩, ⟨none, none, .st 5, [.tm 9, .tm 19]⟩, ⟨some 10, none, .mv, [.tm 20]⟩] [1, 2, 4, 7, 9, 10]) (.seq (.reg [⟨some 22, none, .ld true 5 false, [.tm 4]⟩, ⟨some 23, none, .mv, [.tm 1]⟩, ⟨some 24, none, .mv, [.tm 2]⟩, ⟨some 25, none, .ld true 3 false, [.tm 7]⟩, ⟨some 26, none, .call 36, [.tm 22, .tm 23, .tm 24, .tm 25]⟩, ⟨some 21, none, .mv, [.tm 26]⟩, ⟨some 27, none, .po (.ext 0), [.tm 21]⟩, ⟨some 28, none, .po (.ext 1), [.tm 21]⟩, ⟨some 11, none, .alloc [.n .i64 0, .n .i64 0, .n .i64 0, .b false, .n .i64 0], []⟩, ⟨none, none, .st 5, [.tm 11, .tm 27]⟩, ⟨some 12, none, .mv, [.tm 28]⟩] [9, 10, 11, 12]) (.seq (.reg [⟨some 29, none, .call 32, []⟩, ⟨some 30, none, .mv, [.tm 29]⟩, ⟨some 31, some (30, true), .ld true 5 false, [.tm 9]⟩, ⟨some 32, some (30, true), .ld true 5 false, [.tm 11]⟩, ⟨some 33, some (30, true), .po (.veq false [(0, .n), (1, .n), (2, .n), (3, .b), (4, .n)]), [.tm 31, .tm 32]⟩, ⟨some 34, none, .pick, [.tm 30, .tm 33, .cn (.b false)]⟩, ⟨some 35, none, .mv, [.tm 34]⟩, ⟨some 36, some (35, true), .mv, [.tm 10]⟩, ⟨some 37, some (35, true), .mv, [.tm 12]⟩, ⟨some 38, some (35, true), .po (.bin .eql), [.tm 36, .tm 37]⟩, ⟨some 39, none, .pick, [.tm 35, .tm 38, .cn (.b false)]⟩, ⟨some 8, none, .mv, [.tm 39]⟩] [8]) .ret))), [.tm 8]⟩
theorem of7 : Fn1.of Try.prog 7 ⟨false, [], false⟩ [[1, 2, 4, 7], [1, 2, 4, 7, 9, 10], [9, 10, 11, 12], [8]] = some F7 := by kernel_rfl
theorem uni_ok (s lo hi : Int) (u : Bool) (dr t : Int) : bdOk (uniB s lo hi u dr t) := by
  unfold uniB
  split
  · exact mk_ok _ _
  · trivial
/-- What the exchange and the clock tell together. -/
def syncM (s lo hi : Int) (u : Bool) (dr sent got a b : Int) (w : Bool) : Bd × Bool :=
  meetB (addB (normB a b w) (some (0, cdiv ((got - sent + 1) * 1000000) (1000000 - dr)))) (uniB s lo hi u dr got)
def syncErr (s lo hi : Int) (u : Bool) (dr sent got a b : Int) (w : Bool) : Int :=
  if clkErr s lo hi u dr ≠ 0 then clkErr s lo hi u dr else if ¬ (inT sent ∧ inT got) then 4 else if sent < s ∨ got < sent then 11
  else if (syncM s lo hi u dr sent got a b w).2 = false then 15
  else clkErr got (bLo (syncM s lo hi u dr sent got a b w).1) (bHi (syncM s lo hi u dr sent got a b w).1) (bUn (syncM s lo hi u dr sent got a b w).1) dr
def syncV (s lo hi : Int) (u : Bool) (dr sent got a b : Int) (w : Bool) : V :=
  if syncErr s lo hi u dr sent got a b w = 0 then clkV got (bLo (syncM s lo hi u dr sent got a b w).1) (bHi (syncM s lo hi u dr sent got a b w).1) (bUn (syncM s lo hi u dr sent got a b w).1) dr else clkV 0 0 0 false 0
theorem sync_bad {s lo hi : Int} {u : Bool} {dr sent got a b : Int} {w : Bool} {e : Int} (h : syncErr s lo hi u dr sent got a b w = e) (h0 : e ≠ 0) :
    V.tup [clkV 0 0 0 false 0, .n .i64 e] = .tup [syncV s lo hi u dr sent got a b w, .n .i64 (syncErr s lo hi u dr sent got a b w)] := by
  rw [syncV, h, if_neg h0]
theorem late_in {sent got dr : Int} (h1 : inT sent) (h2 : inT got) (h3 : sent ≤ got) (h4 : 0 ≤ dr ∧ dr ≤ 100000) : 0 ≤ cdiv ((got - sent + 1) * 1000000) (1000000 - dr) ∧ cdiv ((got - sent + 1) * 1000000) (1000000 - dr) ≤ 1152921504606846976 ∧ 0 ≤ (got - sent + 1) * 1000000 / (1000000 - dr) ∧ (got - sent + 1) * 1000000 / (1000000 - dr) ≤ 1152921504606846976 := by
  unfold inT at h1 h2
  obtain ⟨q1, q2, q3, q4⟩ := part_le (a := got - sent + 1) (n := 1000000) (d := 1000000 - dr) (by omega) (by omega) (by omega)
  omega
theorem sync_ok (s lo hi : Int) (u : Bool) (dr sent got a b : Int) (w : Bool) : Pure Try.prog 35 [clkV s lo hi u dr, .n .i64 sent, .n .i64 got, bdV a b w] (.tup [syncV s lo hi u dr sent got a b w, .n .i64 (syncErr s lo hi u dr sent got a b w)]) := by
  refine pure_of_wp of35 (Nat.le_of_ble_eq_true rfl) ?_
  refine CallK.mk _ (clkCheck s lo hi u dr) rfl ?_
  refine DecK.bne (fun h => ?_) (fun h => ?_)
  · have e : syncErr s lo hi u dr sent got a b w = clkErr s lo hi u dr := by rw [syncErr, if_pos h]
    ((repeat' first | refine DecK.tt ?_ | refine DecK.ff ?_ | refine DecK.beq (fun _ => ?_) (fun _ => ?_) | refine DecK.bne (fun _ => ?_) (fun _ => ?_) | refine DecK.dec (fun _ => ?_) (fun _ => ?_) | refine OptK.mk _ rfl ?_ | refine endV (by rfl) ?_) <;> (try with_reducible rfl))
    exact sync_bad e h
  obtain ⟨h1, h2, h3, h4, h5, h6⟩ := clk_ok h
  refine CallK.mk _ (inTime1 sent) rfl ?_
  by_cases hs : inT sent
  case neg =>
    have e : syncErr s lo hi u dr sent got a b w = 4 := by rw [syncErr, if_neg (by simp [h]), if_pos (fun g => hs g.1)]
    refine DecK.yes (by simp [hs]) ?_
    repeat' first | (refine DecK.yes (by simp [hs]) ?_) | refine DecK.tt ?_ | refine DecK.ff ?_ | refine DecK.beq (fun _ => ?_) (fun _ => ?_) | refine DecK.bne (fun _ => ?_) (fun _ => ?_) | refine DecK.dec (fun _ => ?_) (fun _ => ?_) | refine OptK.mk _ rfl ?_ | refine endV (by rfl) ?_
    exact sync_bad e (by decide)
  refine DecK.no (by simp [hs]) ?_
  refine CallK.mk _ (inTime1 got) rfl ?_
  by_cases hg : inT got
  case neg =>
    have e : syncErr s lo hi u dr sent got a b w = 4 := by rw [syncErr, if_neg (by simp [h]), if_pos (fun g => hg g.2)]
    refine DecK.yes (by simp [hg]) ?_
    repeat' first | (refine DecK.yes (by simp [hg]) ?_) | refine DecK.tt ?_ | refine DecK.ff ?_ | refine DecK.beq (fun _ => ?_) (fun _ => ?_) | refine DecK.bne (fun _ => ?_) (fun _ => ?_) | refine DecK.dec (fun _ => ?_) (fun _ => ?_) | refine OptK.mk _ rfl ?_ | refine endV (by rfl) ?_
    exact sync_bad e (by decide)
  refine DecK.no (by simp [hg]) ?_
  refine DecK.dec (fun g1 => ?_) (fun g1 => ?_)
  · have e : syncErr s lo hi u dr sent got a b w = 11 := by rw [syncErr, if_neg (by simp [h]), if_neg (fun g => g ⟨hs, hg⟩), if_pos (.inl g1)]
    ((repeat' first | refine DecK.tt ?_ | refine DecK.ff ?_ | refine DecK.beq (fun _ => ?_) (fun _ => ?_) | refine DecK.bne (fun _ => ?_) (fun _ => ?_) | refine DecK.dec (fun _ => ?_) (fun _ => ?_) | refine OptK.mk _ rfl ?_ | refine endV (by rfl) ?_) <;> (try with_reducible rfl))
    exact sync_bad e (by decide)
  refine DecK.dec (fun g2 => ?_) (fun g2 => ?_)
  · have e : syncErr s lo hi u dr sent got a b w = 11 := by rw [syncErr, if_neg (by simp [h]), if_neg (fun g => g ⟨hs, hg⟩), if_pos (.inr g2)]
    ((repeat' first | refine DecK.tt ?_ | refine DecK.ff ?_ | refine DecK.beq (fun _ => ?_) (fun _ => ?_) | refine DecK.bne (fun _ => ?_) (fun _ => ?_) | refine DecK.dec (fun _ => ?_) (fun _ => ?_) | refine OptK.mk _ rfl ?_ | refine endV (by rfl) ?_) <;> (try with_reducible rfl))
    exact sync_bad e (by decide)
  have hl := late_in (dr := dr) hs hg (by omega) ⟨h4, h5⟩
  have e : syncErr s lo hi u dr sent got a b w = if (syncM s lo hi u dr sent got a b w).2 = false then 15
    else clkErr got (bLo (syncM s lo hi u dr sent got a b w).1) (bHi (syncM s lo hi u dr sent got a b w).1) (bUn (syncM s lo hi u dr sent got a b w).1) dr := by
    rw [syncErr, if_neg (by simp [h]), if_neg (fun g => g ⟨hs, hg⟩), if_neg (by omega)]
  have hM : syncM s lo hi u dr sent got a b w = meetB (addB (normB a b w) (some (0, cdiv ((got - sent + 1) * 1000000) (1000000 - dr)))) (uniB s lo hi u dr got) := rfl
  unfold inT at hs hg
  have t2 : Pure Try.prog 76 [.n .i64 (got - sent + 1), .n .i64 1000000, .n .i64 (1000000 - dr)] (.tup [.n .i64 (cdiv ((got - sent + 1) * 1000000) (1000000 - dr)), .n .i64 0]) := by
    have := mulDivUp_ok (got - sent + 1) 1000000 (1000000 - dr) (by unfold fits; omega) (by decide) (by unfold fits; omega)
    rwa [upT_fit (by omega) (by unfold fits; omega) (by unfold fits; omega)] at this
  have w3 : IntKind.i64.wrap (IntKind.i64.wrap (got - sent) + 1) = got - sent + 1 := by simp (discharger := omega) only [w64, wu64, wu8, w32, wu32, tdivC, tmodC]
  have w4 : IntKind.i64.wrap (1000000 - dr) = 1000000 - dr := w64 (by omega)
  refine CallK.mk _ (t2.args (by rw [w3, w4])) rfl ?_
  generalize cdiv ((got - sent + 1) * 1000000) (1000000 - dr) = L at *
  have hn : mkB 0 L = some (0, L) := mkB_some (by unfold bval; omega)
  have ho := ofTick 0 L
  rw [hn] at ho
  refine CallK.mk _ ho rfl ?_
  have ha := addTick a b w 0 L false
  rw [show normB 0 L false = some (0, L) from hn] at ha
  refine CallK.mk _ ha rfl ?_
  refine OptK.mk _ rfl ?_
  refine CallK.mk _ (uniform_ok s lo hi u dr got) rfl ?_
  have ok1 : bdOk (addB (normB a b w) (some (0, L))) := by
    unfold addB
    split
    · exact mk_ok _ _
    · trivial
  have hm := meetTick (bLo (addB (normB a b w) (some (0, L)))) (bHi (addB (normB a b w) (some (0, L)))) (bUn (addB (normB a b w) (some (0, L)))) (bLo (uniB s lo hi u dr got)) (bHi (uniB s lo hi u dr got)) (bUn (uniB s lo hi u dr got))
  rw [norm_enc ok1, norm_enc (uni_ok s lo hi u dr got), ← hM] at hm
  refine CallK.mk _ hm rfl ?_
  cases hM2 : (syncM s lo hi u dr sent got a b w).2 with
  | false =>
    rw [if_pos hM2] at e
    repeat' first | (refine DecK.yes rfl ?_) | refine DecK.tt ?_ | refine DecK.ff ?_ | refine DecK.beq (fun _ => ?_) (fun _ => ?_) | refine DecK.bne (fun _ => ?_) (fun _ => ?_) | refine DecK.dec (fun _ => ?_) (fun _ => ?_) | refine OptK.mk _ rfl ?_ | refine endV (by rfl) ?_
    exact sync_bad e (by decide)
  | true =>
  rw [if_neg (by rw [hM2]; decide)] at e
  refine OptK.mk _ rfl ?_
  refine DecK.no rfl ?_
  refine OptK.mk _ rfl ?_
  refine CallK.mk _ (clkCheck _ _ _ _ _) rfl ?_
  rw [← e]
  refine DecK.bne (fun h => ?_) (fun h => ?_)
  · ((repeat' first | refine DecK.tt ?_ | refine DecK.ff ?_ | refine DecK.beq (fun _ => ?_) (fun _ => ?_) | refine DecK.bne (fun _ => ?_) (fun _ => ?_) | refine DecK.dec (fun _ => ?_) (fun _ => ?_) | refine OptK.mk _ rfl ?_ | refine endV (by rfl) ?_) <;> (try with_reducible rfl))
    exact sync_bad rfl h
  · ((repeat' first | refine DecK.tt ?_ | refine DecK.ff ?_ | refine DecK.beq (fun _ => ?_) (fun _ => ?_) | refine DecK.bne (fun _ => ?_) (fun _ => ?_) | refine DecK.dec (fun _ => ?_) (fun _ => ?_) | refine OptK.mk _ rfl ?_ | refine endV (by rfl) ?_) <;> (try with_reducible rfl))
    rw [syncV, if_pos h, h]
    rfl
set_option maxHeartbeats 4000000 in
theorem synced_ok (s lo hi : Int) (u : Bool) (dr sent got a b : Int) (w : Bool) : Pure Try.prog 36 [clkV s lo hi u dr, .n .i64 sent, .n .i64 got, bdV a b w] (.tup [syncV s lo hi u dr sent got a b w, .n .i64 (syncErr s lo hi u dr sent got a b w)]) := by
  refine pure_of_wp of36 (Nat.le_of_ble_eq_true rfl) ?_
  refine CallK.mk _ (clkErr2 s lo hi u dr) rfl ?_
  refine DecK.bne (fun h => ?_) (fun h => ?_)
  · have e : syncErr s lo hi u dr sent got a b w = clkErr s lo hi u dr := by rw [syncErr, if_pos h]
    ((repeat' first | refine DecK.tt ?_ | refine DecK.ff ?_ | refine DecK.beq (fun _ => ?_) (fun _ => ?_) | refine DecK.bne (fun _ => ?_) (fun _ => ?_) | refine DecK.dec (fun _ => ?_) (fun _ => ?_) | refine OptK.mk _ rfl ?_ | refine endV (by rfl) ?_) <;> (try with_reducible rfl))
    exact sync_bad e h
  obtain ⟨h1, h2, h3, h4, h5, h6⟩ := clk_ok h
  refine CallK.mk _ (inTime2 sent) rfl ?_
  by_cases hs : inT sent
  case neg =>
    have e : syncErr s lo hi u dr sent got a b w = 4 := by rw [syncErr, if_neg (by simp [h]), if_pos (fun g => hs g.1)]
    refine DecK.yes (by simp [hs]) ?_
    repeat' first | (refine DecK.yes (by simp [hs]) ?_) | refine DecK.tt ?_ | refine DecK.ff ?_ | refine DecK.beq (fun _ => ?_) (fun _ => ?_) | refine DecK.bne (fun _ => ?_) (fun _ => ?_) | refine DecK.dec (fun _ => ?_) (fun _ => ?_) | refine OptK.mk _ rfl ?_ | refine endV (by rfl) ?_
    exact sync_bad e (by decide)
  refine DecK.no (by simp [hs]) ?_
  refine CallK.mk _ (inTime2 got) rfl ?_
  by_cases hg : inT got
  case neg =>
    have e : syncErr s lo hi u dr sent got a b w = 4 := by rw [syncErr, if_neg (by simp [h]), if_pos (fun g => hg g.2)]
    refine DecK.yes (by simp [hg]) ?_
    repeat' first | (refine DecK.yes (by simp [hg]) ?_) | refine DecK.tt ?_ | refine DecK.ff ?_ | refine DecK.beq (fun _ => ?_) (fun _ => ?_) | refine DecK.bne (fun _ => ?_) (fun _ => ?_) | refine DecK.dec (fun _ => ?_) (fun _ => ?_) | refine OptK.mk _ rfl ?_ | refine endV (by rfl) ?_
    exact sync_bad e (by decide)
  refine DecK.no (by simp [hg]) ?_
  refine DecK.dec (fun g1 => ?_) (fun g1 => ?_)
  · have e : syncErr s lo hi u dr sent got a b w = 11 := by rw [syncErr, if_neg (by simp [h]), if_neg (fun g => g ⟨hs, hg⟩), if_pos (.inl g1)]
    ((repeat' first | refine DecK.tt ?_ | refine DecK.ff ?_ | refine DecK.beq (fun _ => ?_) (fun _ => ?_) | refine DecK.bne (fun _ => ?_) (fun _ => ?_) | refine DecK.dec (fun _ => ?_) (fun _ => ?_) | refine OptK.mk _ rfl ?_ | refine endV (by rfl) ?_) <;> (try with_reducible rfl))
    exact sync_bad e (by decide)
  refine DecK.dec (fun g2 => ?_) (fun g2 => ?_)
  · have e : syncErr s lo hi u dr sent got a b w = 11 := by rw [syncErr, if_neg (by simp [h]), if_neg (fun g => g ⟨hs, hg⟩), if_pos (.inr g2)]
    ((repeat' first | refine DecK.tt ?_ | refine DecK.ff ?_ | refine DecK.beq (fun _ => ?_) (fun _ => ?_) | refine DecK.bne (fun _ => ?_) (fun _ => ?_) | refine DecK.dec (fun _ => ?_) (fun _ => ?_) | refine OptK.mk _ rfl ?_ | refine endV (by rfl) ?_) <;> (try with_reducible rfl))
    exact sync_bad e (by decide)
  have hl := late_in (dr := dr) hs hg (by omega) ⟨h4, h5⟩
  have e : syncErr s lo hi u dr sent got a b w = if (syncM s lo hi u dr sent got a b w).2 = false then 15
    else clkErr got (bLo (syncM s lo hi u dr sent got a b w).1) (bHi (syncM s lo hi u dr sent got a b w).1) (bUn (syncM s lo hi u dr sent got a b w).1) dr := by
    rw [syncErr, if_neg (by simp [h]), if_neg (fun g => g ⟨hs, hg⟩), if_neg (by omega)]
  have hM : syncM s lo hi u dr sent got a b w = meetB (addB (normB a b w) (some (0, cdiv ((got - sent + 1) * 1000000) (1000000 - dr)))) (uniB s lo hi u dr got) := rfl
  have t2 := part_ok (got - sent + 1) 1000000 (1000000 - dr) true (by unfold inT at hs hg; unfold fits; omega) (by decide) (by unfold fits; omega) (by omega)
  simp only [if_true] at t2
  unfold inT at hs hg
  have w3 : IntKind.i64.wrap (IntKind.i64.wrap (got - sent) + 1) = got - sent + 1 := by simp (discharger := omega) only [w64, wu64, wu8, w32, wu32, tdivC, tmodC]
  have w4 : IntKind.i64.wrap (1000000 - dr) = 1000000 - dr := w64 (by omega)
  refine CallK.mk _ (said_ok s lo hi u dr got) rfl ?_
  refine OptK.mk _ rfl ?_
  refine CallK.mk _ (sidesTick a b w) rfl ?_
  have hx := norm_ok a b w
  have hy := uni_ok s lo hi u dr got
  generalize cdiv ((got - sent + 1) * 1000000) (1000000 - dr) = L at *
  generalize normB a b w = x at *
  generalize uniB s lo hi u dr got = y at *
  have fin : ∀ m : Bd, syncM s lo hi u dr sent got a b w = (m, true) → syncErr s lo hi u dr sent got a b w = clkErr got (bLo m) (bHi m) (bUn m) dr ∧ ∀ e0 : Int, e0 = 0 → clkErr got (bLo m) (bHi m) (bUn m) dr = 0 →
      V.tup [clkV got (bLo m) (bHi m) (bUn m) dr, .n .i64 e0] = .tup [syncV s lo hi u dr sent got a b w, .n .i64 (syncErr s lo hi u dr sent got a b w)] := by
    intro m hm
    rw [hm, if_neg (by simp)] at e
    refine ⟨e, fun e0 h0 h1 => ?_⟩
    rw [syncV, e, h1, if_pos rfl, hm, h0]
  refine OptK.mk _ rfl ?_
  refine OptK.mk _ rfl ?_
  rcases x with _ | ⟨p, q⟩
  · refine DecK.ff ?_
    obtain ⟨f1, f2⟩ := fin y (by rw [hM]; simp only [addB, meetB])
    refine CallK.mk _ (clkErr2 _ _ _ _ _) rfl ?_
    refine DecK.bne (fun h => ?_) (fun h => ?_)
    · ((repeat' first | refine DecK.tt ?_ | refine DecK.ff ?_ | refine DecK.beq (fun _ => ?_) (fun _ => ?_) | refine DecK.bne (fun _ => ?_) (fun _ => ?_) | refine DecK.dec (fun _ => ?_) (fun _ => ?_) | refine OptK.mk _ rfl ?_ | refine endV (by rfl) ?_) <;> (try with_reducible rfl))
      rw [← f1] at h ⊢
      exact sync_bad rfl h
    · ((repeat' first | refine DecK.tt ?_ | refine DecK.ff ?_ | refine DecK.beq (fun _ => ?_) (fun _ => ?_) | refine DecK.bne (fun _ => ?_) (fun _ => ?_) | refine DecK.dec (fun _ => ?_) (fun _ => ?_) | refine OptK.mk _ rfl ?_ | refine endV (by rfl) ?_) <;> (try with_reducible rfl))
      exact f2 0 rfl h
  unfold bdOk bval at hx
  simp only at hx
  have zz : ∀ x : Int, -18446744073709551616 ≤ x ∧ x ≤ 18446744073709551616 → zok x := fun x h => (zb_64 h).mono (by decide)
  refine DecK.tt ?_
  refine CallK.mk _ (t2.args (by rw [w3, w4])) rfl ?_
  refine CallK.mk _ (Plus_ok q L (zz _ (by omega)) (zz _ (by omega))) rfl ?_
  refine CallK.mk _ (boundedTick p (q + L) (zz _ (by omega)) (zz _ (by omega))) rfl ?_
  have eA : addB (some (p, q)) (some (0, L)) = mkB p (q + L) := by simp only [addB, Int.add_zero]
  rw [eA] at hM
  have hk := mk_ok p (q + L)
  generalize mkB p (q + L) = k at *
  refine OptK.mk _ rfl ?_
  rcases k with _ | ⟨k1, k2⟩
  · refine DecK.tt ?_
    obtain ⟨f1, f2⟩ := fin y (by rw [hM]; simp only [meetB])
    refine CallK.mk _ (clkErr2 _ _ _ _ _) rfl ?_
    refine DecK.bne (fun h => ?_) (fun h => ?_)
    · ((repeat' first | refine DecK.tt ?_ | refine DecK.ff ?_ | refine DecK.beq (fun _ => ?_) (fun _ => ?_) | refine DecK.bne (fun _ => ?_) (fun _ => ?_) | refine DecK.dec (fun _ => ?_) (fun _ => ?_) | refine OptK.mk _ rfl ?_ | refine endV (by rfl) ?_) <;> (try with_reducible rfl))
      rw [← f1] at h ⊢
      exact sync_bad rfl h
    · ((repeat' first | refine DecK.tt ?_ | refine DecK.ff ?_ | refine DecK.beq (fun _ => ?_) (fun _ => ?_) | refine DecK.bne (fun _ => ?_) (fun _ => ?_) | refine DecK.dec (fun _ => ?_) (fun _ => ?_) | refine OptK.mk _ rfl ?_ | refine endV (by rfl) ?_) <;> (try with_reducible rfl))
      exact f2 0 rfl h
  refine DecK.ff ?_
  rcases y with _ | ⟨y1, y2⟩
  · refine DecK.tt ?_
    obtain ⟨f1, f2⟩ := fin (some (k1, k2)) (by rw [hM]; simp only [meetB])
    refine OptK.mk _ rfl ?_
    refine CallK.mk _ (clkErr2 _ _ _ _ _) rfl ?_
    refine DecK.bne (fun h => ?_) (fun h => ?_)
    · ((repeat' first | refine DecK.tt ?_ | refine DecK.ff ?_ | refine DecK.beq (fun _ => ?_) (fun _ => ?_) | refine DecK.bne (fun _ => ?_) (fun _ => ?_) | refine DecK.dec (fun _ => ?_) (fun _ => ?_) | refine OptK.mk _ rfl ?_ | refine endV (by rfl) ?_) <;> (try with_reducible rfl))
      rw [← f1] at h ⊢
      exact sync_bad rfl h
    · ((repeat' first | refine DecK.tt ?_ | refine DecK.ff ?_ | refine DecK.beq (fun _ => ?_) (fun _ => ?_) | refine DecK.bne (fun _ => ?_) (fun _ => ?_) | refine DecK.dec (fun _ => ?_) (fun _ => ?_) | refine OptK.mk _ rfl ?_ | refine endV (by rfl) ?_) <;> (try with_reducible rfl))
      exact f2 0 rfl h
  refine DecK.ff ?_
  unfold bdOk bval at hk hy
  simp only at hk hy
  refine DecK.dec (fun h => ?_) (fun h => ?_)
  · have h : k1 > y2 := h
    have e15 : syncErr s lo hi u dr sent got a b w = 15 := by
      have hm : meetB (some (k1, k2)) (some (y1, y2)) = (some (0, 0), false) := if_pos (show max k1 y1 > min k2 y2 by omega)
      rw [e, hM, hm, if_pos rfl]
    ((repeat' first | refine DecK.tt ?_ | refine DecK.ff ?_ | refine DecK.beq (fun _ => ?_) (fun _ => ?_) | refine DecK.bne (fun _ => ?_) (fun _ => ?_) | refine DecK.dec (fun _ => ?_) (fun _ => ?_) | refine OptK.mk _ rfl ?_ | refine endV (by rfl) ?_) <;> (try with_reducible rfl))
    exact sync_bad e15 (by decide)
  refine DecK.dec (fun h' => ?_) (fun h' => ?_)
  · have h' : y1 > k2 := h'
    have e15 : syncErr s lo hi u dr sent got a b w = 15 := by
      have hm : meetB (some (k1, k2)) (some (y1, y2)) = (some (0, 0), false) := if_pos (show max k1 y1 > min k2 y2 by omega)
      rw [e, hM, hm, if_pos rfl]
    ((repeat' first | refine DecK.tt ?_ | refine DecK.ff ?_ | refine DecK.beq (fun _ => ?_) (fun _ => ?_) | refine DecK.bne (fun _ => ?_) (fun _ => ?_) | refine DecK.dec (fun _ => ?_) (fun _ => ?_) | refine OptK.mk _ rfl ?_ | refine endV (by rfl) ?_) <;> (try with_reducible rfl))
    exact sync_bad e15 (by decide)
  have h : ¬ k1 > y2 := h
  have h' : ¬ y1 > k2 := h'
  obtain ⟨f1, f2⟩ := fin (some (max k1 y1, min k2 y2)) (by rw [hM]; exact if_neg (show ¬ max k1 y1 > min k2 y2 by omega))
  have e1 : (if k1 > y1 then k1 else y1) = max k1 y1 := by omega
  have e2 : (if k2 < y2 then k2 else y2) = min k2 y2 := by omega
  refine OptK.mk _ rfl ?_
  refine OptK.mk _ rfl ?_
  refine CallK.mk _ ((clkErr2 got (max k1 y1) (min k2 y2) false dr).args (by rw [← e1, ← e2]; rfl)) rfl ?_
  refine DecK.bne (fun h => ?_) (fun h => ?_)
  · ((repeat' first | refine DecK.tt ?_ | refine DecK.ff ?_ | refine DecK.beq (fun _ => ?_) (fun _ => ?_) | refine DecK.bne (fun _ => ?_) (fun _ => ?_) | refine DecK.dec (fun _ => ?_) (fun _ => ?_) | refine OptK.mk _ rfl ?_ | refine endV (by rfl) ?_) <;> (try with_reducible rfl))
    rw [show clkErr got (max k1 y1) (min k2 y2) false dr = syncErr s lo hi u dr sent got a b w from f1.symm] at h ⊢
    exact sync_bad rfl h
  · ((repeat' first | refine DecK.tt ?_ | refine DecK.ff ?_ | refine DecK.beq (fun _ => ?_) (fun _ => ?_) | refine DecK.bne (fun _ => ?_) (fun _ => ?_) | refine DecK.dec (fun _ => ?_) (fun _ => ?_) | refine OptK.mk _ rfl ?_ | refine endV (by rfl) ?_) <;> (try with_reducible rfl))
    have := f2 0 rfl h
    rw [← this, ← e1, ← e2]
    rfl
theorem eqClk {objs : List (Nat × List V)} {x : V} (h : ∃ a b c d e, x = clkV a b c d e) : (SO.po (.veq false [(0, .n), (1, .n), (2, .n), (3, .b), (4, .n)])).rdx objs [.v x, .v x] = some (.v (.b true)) := by
  obtain ⟨a, b, c, d, e, rfl⟩ := h
  simp [SO.rdx, SO.rd, allV, PO.run, veqV, eqLv, eqk]
theorem clockSyncs_pure (s lo hi : Int) (u : Bool) (dr sent got a b : Int) (w : Bool) : Pure Try.prog 7 [clkV s lo hi u dr, .n .i64 sent, .n .i64 got, bdV a b w] (.b true) := by
  refine pure_of_wp of7 (Nat.le_of_ble_eq_true rfl) ?_
  have hv : ∃ a' b' c' d' e', syncV s lo hi u dr sent got a b w = clkV a' b' c' d' e' := by
    unfold syncV
    split
    · exact ⟨_, _, _, _, _, rfl⟩
    · exact ⟨_, _, _, _, _, rfl⟩
  have q1 := sync_ok s lo hi u dr sent got a b w
  have q2 := synced_ok s lo hi u dr sent got a b w
  generalize syncErr s lo hi u dr sent got a b w = E at *
  generalize syncV s lo hi u dr sent got a b w = X at *
  obtain ⟨a1, a2, a3, a4, a5, rfl⟩ := hv
  refine CallK.mk _ q1 rfl ?_
  refine OptK.mk _ rfl ?_
  refine CallK.mk _ q2 rfl ?_
  refine OptK.mk _ rfl ?_
  refine CallK.mk _ clocks_ok rfl ?_
  refine DecK.tt ?_
  refine OptK.mk _ (eqClk ⟨_, _, _, _, _, rfl⟩) ?_
  repeat' first | (refine DecK.yes (by simp) ?_) | (refine endV (by rfl) ?_)
  simp
theorem clockSyncs_law (x : Ty.T (.pair (.pair (.n .i64) (.pair (.pair (.n .i64) (.pair (.n .i64) (.pair .b .nil))) (.pair (.n .i64) .nil))) (.pair (.n .i64) (.pair (.n .i64) (.pair (.pair (.n .i64) (.pair (.n .i64) (.pair .b .nil))) .nil)))))
    (h : Ty.inn (.pair (.pair (.n .i64) (.pair (.pair (.n .i64) (.pair (.n .i64) (.pair .b .nil))) (.pair (.n .i64) .nil))) (.pair (.n .i64) (.pair (.n .i64) (.pair (.pair (.n .i64) (.pair (.n .i64) (.pair .b .nil))) .nil)))) x) :
    Pure Try.prog 7 (Ty.vals (.pair (.pair (.n .i64) (.pair (.pair (.n .i64) (.pair (.n .i64) (.pair .b .nil))) (.pair (.n .i64) .nil))) (.pair (.n .i64) (.pair (.n .i64) (.pair (.pair (.n .i64) (.pair (.n .i64) (.pair .b .nil))) .nil)))) x) (.b true) :=
  clockSyncs_pure x.1.1 x.1.2.1.1 x.1.2.1.2.1 x.1.2.1.2.2.1 x.1.2.2.1 x.2.1 x.2.2.1 x.2.2.2.1.1 x.2.2.2.1.2.1 x.2.2.2.1.2.2.1
end Go.Proofs.Ytdceakejbnolpaa.Sv

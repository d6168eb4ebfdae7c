/- Continued fractions: the law FracTerms. No condition. -/
import Derived.Test.YtjeafcngljbdlaaFq
import Derived.Test.YtjeafcngljbdlaaFi
namespace Go.Proofs.Ytjeafcngljbdlaa.Sv
open Go Go.RowKit
set_option linter.unusedVariables false
set_option linter.unusedSimpArgs false
set_option maxRecDepth 100000
/-- live: [14, 15, 20, 21, 144, 145, 146] -/
def L4_0 : SC := .seq (.reg [⟨some 147, none, .po (.bin .lss), [.tm 146, .tm 145]⟩] [14, 15, 20, 21, 144, 145, 146, 147]) (.seq (.cond (.tm 147) .skip (.exit 4)) (.seq (.block 5 (.seq (.reg [⟨some 148, none, .ia none 1, [.tm 144, .tm 146]⟩, ⟨some 149, none, .ld false 1 true, [.tm 148]⟩, ⟨some 23, none, .mv, [.tm 149]⟩] [14, 15, 20, 21, 23, 144, 145, 146]) (.seq (.dreg [⟨some 150, none, .ia (some 2) 2, [.tm 20, .cn (.n .i64 1)]⟩, ⟨some 151, none, .ld true 2 true, [.tm 150]⟩, ⟨some 152, none, .ia (some 2) 2, [.tm 20, .cn (.n .i64 0)]⟩, ⟨some 153, none, .ld true 2 true, [.tm 152]⟩, ⟨some 154, none, .ia (some 2) 2, [.tm 20, .cn (.n .i64 1)]⟩, ⟨some 155, none, .ld true 2 true, [.tm 154]⟩, ⟨some 156, none, .mv, [.tm 23]⟩, ⟨some 157, none, .call 10, [.tm 156]⟩, ⟨some 158, none, .call 26, [.tm 155, .tm 157]⟩, ⟨some 159, none, .call 7, [.tm 153, .tm 158]⟩, ⟨some 160, none, .po (.build [.b false, .sl 0 [] true, .b false, .sl 0 [] true] [(0, 2), (2, 2)]), [.tm 151, .tm 159]⟩, ⟨none, none, .st 4, [.tm 20, .tm 160]⟩] [] [14, 15, 20, 21, 23, 144, 145, 146]) (.dreg [⟨some 161, none, .ia (some 2) 2, [.tm 21, .cn (.n .i64 1)]⟩, ⟨some 162, none, .ld true 2 true, [.tm 161]⟩, ⟨some 163, none, .ia (some 2) 2, [.tm 21, .cn (.n .i64 0)]⟩, ⟨some 164, none, .ld true 2 true, [.tm 163]⟩, ⟨some 165, none, .ia (some 2) 2, [.tm 21, .cn (.n .i64 1)]⟩, ⟨some 166, none, .ld true 2 true, [.tm 165]⟩, ⟨some 167, none, .mv, [.tm 23]⟩, ⟨some 168, none, .call 10, [.tm 167]⟩, ⟨some 169, none, .call 26, [.tm 166, .tm 168]⟩, ⟨some 170, none, .call 7, [.tm 164, .tm 169]⟩, ⟨some 171, none, .po (.build [.b false, .sl 0 [] true, .b false, .sl 0 [] true] [(0, 2), (2, 2)]), [.tm 162, .tm 170]⟩, ⟨none, none, .st 4, [.tm 21, .tm 171]⟩] [] [14, 15, 20, 21, 144, 145, 146])))) (.reg [⟨some 172, none, .po (.bin .add), [.tm 146, .cn (.n .i64 1)]⟩, ⟨some 146, none, .mv, [.tm 172]⟩] [14, 15, 20, 21, 144, 145, 146])))
/-- live: [1, 14, 15, 16, 82, 83, 84] -/
def L4_1 : SC := .seq (.reg [⟨some 85, none, .po (.bin .lss), [.tm 84, .tm 83]⟩] [1, 14, 15, 16, 82, 83, 84, 85]) (.seq (.cond (.tm 85) .skip (.exit 2)) (.seq (.block 3 (.seq (.reg [⟨some 86, none, .mv, [.tm 84]⟩, ⟨some 87, none, .ia none 1, [.tm 82, .tm 84]⟩, ⟨some 88, none, .ld false 1 true, [.tm 87]⟩, ⟨some 17, none, .mv, [.tm 86]⟩, ⟨some 18, none, .mv, [.tm 88]⟩] [1, 14, 15, 16, 17, 18, 82, 83, 84]) (.seq (.reg [⟨some 89, none, .mv, [.tm 16]⟩, ⟨some 90, none, .po (.bin .eql), [.tm 89, .cn (.n .i64 0)]⟩, ⟨some 91, none, .mv, [.tm 90]⟩, ⟨some 92, some (91, true), .mv, [.tm 18]⟩, ⟨some 93, some (91, true), .po (.bin .gtr), [.tm 92, .cn (.n .i64 1152921504606846976)]⟩, ⟨some 94, some (91, true), .mv, [.tm 93]⟩, ⟨some 95, some (94, false), .mv, [.tm 18]⟩, ⟨some 96, some (94, false), .po (.bin .lss), [.tm 95, .cn (.n .i64 (-1152921504606846976))]⟩, ⟨some 97, some (91, true), .pick, [.tm 94, .cn (.b true), .tm 96]⟩, ⟨some 98, some (91, true), .mv, [.tm 97]⟩, ⟨some 99, some (98, false), .mv, [.tm 17]⟩, ⟨some 100, some (98, false), .po (.bin .gtr), [.tm 99, .cn (.n .i64 0)]⟩, ⟨some 101, some (98, false), .mv, [.tm 100]⟩, ⟨some 102, some (101, true), .mv, [.tm 18]⟩, ⟨some 103, some (101, true), .po (.bin .lss), [.tm 102, .cn (.n .i64 1)]⟩, ⟨some 104, some (98, false), .pick, [.tm 101, .tm 103, .cn (.b false)]⟩, ⟨some 105, some (91, true), .pick, [.tm 98, .cn (.b true), .tm 104]⟩, ⟨some 106, none, .pick, [.tm 91, .tm 105, .cn (.b false)]⟩] [1, 14, 15, 16, 82, 83, 84, 106]) (.cond (.tm 106) (.reg [⟨some 16, none, .mv, [.cn (.n .i64 4)]⟩] [1, 14, 15, 16, 82, 83, 84]) .skip)))) (.reg [⟨some 107, none, .po (.bin .add), [.tm 84, .cn (.n .i64 1)]⟩, ⟨some 84, none, .mv, [.tm 107]⟩] [1, 14, 15, 16, 82, 83, 84])))
/-- live: [1, 2, 5, 6, 7] -/
def L4_2 : SC := .seq (.seq (.reg [⟨some 35, none, .ld true 2 false, [.tm 7]⟩, ⟨some 36, none, .call 19, [.tm 35]⟩, ⟨some 37, none, .po (.bin .gtr), [.tm 36, .cn (.n .i64 0)]⟩] [1, 2, 5, 6, 7, 37]) (.cond (.tm 37) .skip (.exit 0))) (.block 1 (.seq (.reg [⟨some 39, none, .ld true 2 false, [.tm 6]⟩, ⟨some 40, none, .ld true 2 false, [.tm 7]⟩, ⟨some 41, none, .call 20, [.tm 39, .tm 40]⟩, ⟨some 38, none, .mv, [.tm 41]⟩, ⟨some 42, none, .po (.ext 0), [.tm 38]⟩, ⟨some 43, none, .po (.ext 1), [.tm 38]⟩, ⟨some 8, none, .alloc [.b false, .sl 0 [] true], []⟩, ⟨some 9, none, .alloc [.b false, .sl 0 [] true], []⟩, ⟨none, none, .st 2, [.tm 8, .tm 42]⟩, ⟨none, none, .st 2, [.tm 9, .tm 43]⟩] [1, 2, 5, 6, 7, 8, 9]) (.seq (.reg [⟨some 45, none, .ld true 2 false, [.tm 8]⟩, ⟨some 46, none, .call 21, [.tm 45]⟩, ⟨some 44, none, .mv, [.tm 46]⟩, ⟨some 47, none, .po (.ext 0), [.tm 44]⟩, ⟨some 48, none, .po (.ext 1), [.tm 44]⟩, ⟨some 10, none, .mv, [.tm 47]⟩, ⟨some 11, none, .mv, [.tm 48]⟩] [1, 2, 5, 6, 7, 9, 10]) (.seq (.reg [⟨some 49, none, .mv, [.tm 5]⟩, ⟨some 50, none, .mv, [.tm 10]⟩, ⟨some 51, none, .po (.bsl 1 [.n .i64 0] [(0, 1)]), [.tm 50]⟩, ⟨some 52, none, .app 1 8, [.tm 49, .tm 51]⟩, ⟨some 5, none, .mv, [.tm 52]⟩] [1, 2, 5, 6, 7, 9]) (.dreg [⟨some 53, none, .ld true 2 false, [.tm 7]⟩, ⟨some 54, none, .ld true 2 false, [.tm 9]⟩, ⟨none, none, .st 2, [.tm 6, .tm 53]⟩, ⟨none, none, .st 2, [.tm 7, .tm 54]⟩] [(1, 2)] [1, 2, 5, 6, 7])))))
/-- spyglass/spylaw1.FracTerms -/
def F4 : Fn1 := ⟨189, .seq (.reg [⟨some 2, none, .box, [.tm 0]⟩, ⟨some 4, none, .mv, [.cn (.b false)]⟩] [1, 2]) (.seq (.reg [⟨some 5, none, .adopt 1, []⟩] [1, 2, 5]) (.seq (.seq (.reg [⟨some 26, none, .ld true 2 false, [.tm 2]⟩, ⟨some 27, none, .call 18, [.tm 26]⟩, ⟨some 28, none, .po (.bin .eql), [.tm 27, .cn (.n .i64 0)]⟩] [1, 2, 5, 28]) (.cond (.tm 28) (.seq (.dreg [⟨some 29, none, .fa 0, [.tm 2]⟩, ⟨some 30, none, .ld false 1 false, [.tm 29]⟩, ⟨some 31, none, .call 10, [.tm 30]⟩, ⟨some 32, none, .fa 1, [.tm 2]⟩, ⟨some 33, none, .ld false 1 false, [.tm 32]⟩, ⟨some 34, none, .call 10, [.tm 33]⟩, ⟨some 6, none, .alloc [.b false, .sl 0 [] true], []⟩, ⟨some 7, none, .alloc [.b false, .sl 0 [] true], []⟩, ⟨none, none, .st 2, [.tm 6, .tm 31]⟩, ⟨none, none, .st 2, [.tm 7, .tm 34]⟩] [] [1, 2, 5, 6, 7]) (.block 0 (.loop [1, 2, 5, 6, 7] L4_2))) .skip)) (.seq (.reg [⟨some 56, none, .ld true 2 false, [.tm 2]⟩, ⟨some 57, none, .call 22, [.tm 56]⟩, ⟨some 55, none, .mv, [.tm 57]⟩, ⟨some 58, none, .po (.ext 0), [.tm 55]⟩, ⟨some 59, none, .po (.ext 1), [.tm 55]⟩, ⟨some 12, none, .mv, [.tm 58]⟩, ⟨some 13, none, .mv, [.tm 59]⟩] [1, 2, 5, 12, 13]) (.seq (.seq (.reg [⟨some 60, none, .call 23, []⟩, ⟨some 61, none, .po (.un .not), [.tm 60]⟩, ⟨some 62, none, .mv, [.tm 61]⟩, ⟨some 63, some (62, false), .mv, [.tm 13]⟩, ⟨some 64, some (62, false), .ld true 2 false, [.tm 2]⟩, ⟨some 65, some (62, false), .call 18, [.tm 64]⟩, ⟨some 66, some (62, false), .po (.bin .neq), [.tm 63, .tm 65]⟩, ⟨some 67, none, .pick, [.tm 62, .cn (.b true), .tm 66]⟩, ⟨some 68, none, .mv, [.tm 67]⟩, ⟨some 69, some (68, false), .mv, [.tm 12]⟩, ⟨some 70, some (68, false), .mv, [.tm 5]⟩, ⟨some 71, some (68, false), .call 24, [.tm 69, .tm 70]⟩, ⟨some 72, some (68, false), .po (.un .not), [.tm 71]⟩, ⟨some 73, none, .pick, [.tm 68, .cn (.b true), .tm 72]⟩] [1, 73]) (.cond (.tm 73) (.seq (.reg [⟨some 4, none, .mv, [.cn (.b false)]⟩] [4]) .ret) .skip)) (.seq (.reg [⟨some 75, none, .mv, [.tm 1]⟩, ⟨some 76, none, .call 25, [.tm 75]⟩, ⟨some 74, none, .mv, [.tm 76]⟩, ⟨some 77, none, .po (.ext 0), [.tm 74]⟩, ⟨some 78, none, .po (.ext 1), [.tm 74]⟩, ⟨some 14, none, .alloc [.n .i64 0, .n .i64 0], []⟩, ⟨none, none, .st 2, [.tm 14, .tm 77]⟩, ⟨some 15, none, .mv, [.tm 78]⟩] [1, 14, 15]) (.seq (.reg [⟨some 16, none, .mv, [.cn (.n .i64 0)]⟩] [1, 14, 15, 16]) (.seq (.seq (.reg [⟨some 79, none, .mv, [.tm 1]⟩, ⟨some 80, none, .len false, [.tm 79]⟩, ⟨some 81, none, .po (.bin .eql), [.tm 80, .cn (.n .i64 0)]⟩] [1, 14, 15, 16, 81]) (.cond (.tm 81) (.reg [⟨some 16, none, .mv, [.cn (.n .i64 8)]⟩] [1, 14, 15, 16]) .skip)) (.seq (.seq (.reg [⟨some 82, none, .mv, [.tm 1]⟩, ⟨some 83, none, .len false, [.tm 82]⟩, ⟨some 84, none, .mv, [.cn (.n .i64 0)]⟩] [1, 14, 15, 16, 82, 83, 84]) (.block 2 (.loop [1, 14, 15, 16, 82, 83, 84] L4_1))) (.seq (.seq (.reg [⟨some 108, none, .mv, [.tm 1]⟩, ⟨some 109, none, .len false, [.tm 108]⟩, ⟨some 19, none, .mv, [.tm 109]⟩] [1, 14, 15, 16, 19]) (.seq (.reg [⟨some 110, none, .mv, [.tm 16]⟩, ⟨some 111, none, .po (.bin .eql), [.tm 110, .cn (.n .i64 0)]⟩, ⟨some 112, none, .mv, [.tm 111]⟩, ⟨some 113, some (112, true), .mv, [.tm 19]⟩, ⟨some 114, some (112, true), .po (.bin .gtr), [.tm 113, .cn (.n .i64 1)]⟩, ⟨some 115, none, .pick, [.tm 112, .tm 114, .cn (.b false)]⟩, ⟨some 116, none, .mv, [.tm 115]⟩, ⟨some 117, some (116, true), .mv, [.tm 1]⟩, ⟨some 118, some (116, true), .mv, [.tm 19]⟩, ⟨some 119, some (116, true), .po (.bin .sub), [.tm 118, .cn (.n .i64 1)]⟩, ⟨some 120, some (116, true), .ia none 1, [.tm 117, .tm 119]⟩, ⟨some 121, some (116, true), .ld false 1 true, [.tm 120]⟩, ⟨some 122, some (116, true), .po (.bin .eql), [.tm 121, .cn (.n .i64 1)]⟩, ⟨some 123, none, .pick, [.tm 116, .tm 122, .cn (.b false)]⟩] [1, 14, 15, 16, 123]) (.cond (.tm 123) (.reg [⟨some 16, none, .mv, [.cn (.n .i64 3)]⟩] [1, 14, 15, 16]) .skip))) (.seq (.seq (.reg [⟨some 124, none, .mv, [.tm 16]⟩, ⟨some 125, none, .po (.bin .neq), [.tm 124, .cn (.n .i64 0)]⟩] [1, 14, 15, 16, 125]) (.cond (.tm 125) (.seq (.reg [⟨some 126, none, .mv, [.tm 15]⟩, ⟨some 127, none, .mv, [.tm 16]⟩, ⟨some 128, none, .po (.bin .eql), [.tm 126, .tm 127]⟩, ⟨some 129, none, .mv, [.tm 128]⟩, ⟨some 130, some (129, true), .ld true 2 false, [.tm 14]⟩, ⟨some 131, some (129, true), .po (.build [.n .i64 0, .n .i64 0] []), []⟩, ⟨some 132, some (129, true), .po (.veq false [(0, .n), (1, .n)]), [.tm 130, .tm 131]⟩, ⟨some 133, none, .pick, [.tm 129, .tm 132, .cn (.b false)]⟩, ⟨some 4, none, .mv, [.tm 133]⟩] [4]) .ret) .skip)) (.seq (.reg [⟨some 134, none, .po (.build [.b false, .sl 0 [] true] []), []⟩, ⟨some 135, none, .call 10, [.cn (.n .i64 1)]⟩, ⟨some 136, none, .po (.build [.b false, .sl 0 [] true, .b false, .sl 0 [] true] [(0, 2), (2, 2)]), [.tm 134, .tm 135]⟩, ⟨some 137, none, .call 10, [.cn (.n .i64 1)]⟩, ⟨some 138, none, .po (.build [.b false, .sl 0 [] true] []), []⟩, ⟨some 139, none, .po (.build [.b false, .sl 0 [] true, .b false, .sl 0 [] true] [(0, 2), (2, 2)]), [.tm 137, .tm 138]⟩, ⟨some 20, none, .alloc [.b false, .sl 0 [] true, .b false, .sl 0 [] true], []⟩, ⟨some 21, none, .alloc [.b false, .sl 0 [] true, .b false, .sl 0 [] true], []⟩, ⟨none, none, .st 4, [.tm 20, .tm 136]⟩, ⟨none, none, .st 4, [.tm 21, .tm 139]⟩] [1, 14, 15, 20, 21]) (.seq (.seq (.reg [⟨some 140, none, .mv, [.tm 1]⟩, ⟨some 141, none, .mv, [.tm 1]⟩, ⟨some 142, none, .len false, [.tm 141]⟩, ⟨some 143, none, .po .mn, [.tm 142, .cn (.n .i64 200)]⟩, ⟨some 144, none, .sl false 1 false true false, [.tm 140, .tm 143]⟩, ⟨some 145, none, .len false, [.tm 144]⟩, ⟨some 146, none, .mv, [.cn (.n .i64 0)]⟩] [14, 15, 20, 21, 144, 145, 146]) (.block 4 (.loop [14, 15, 20, 21, 144, 145, 146] L4_0))) (.seq (.reg [⟨some 174, none, .ia (some 2) 2, [.tm 20, .cn (.n .i64 1)]⟩, ⟨some 175, none, .ld true 2 true, [.tm 174]⟩, ⟨some 176, none, .ia (some 2) 2, [.tm 21, .cn (.n .i64 1)]⟩, ⟨some 177, none, .ld true 2 true, [.tm 176]⟩, ⟨some 178, none, .call 27, [.tm 175, .tm 177]⟩, ⟨some 173, none, .mv, [.tm 178]⟩, ⟨some 179, none, .po (.ext 0), [.tm 173]⟩, ⟨some 180, none, .po (.ext 1), [.tm 173]⟩, ⟨some 24, none, .alloc [.n .i64 0, .n .i64 0], []⟩, ⟨none, none, .st 2, [.tm 24, .tm 179]⟩, ⟨some 25, none, .mv, [.tm 180]⟩] [14, 15, 24, 25]) (.seq (.reg [⟨some 181, none, .ld true 2 false, [.tm 14]⟩, ⟨some 182, none, .ld true 2 false, [.tm 24]⟩, ⟨some 183, none, .po (.veq false [(0, .n), (1, .n)]), [.tm 181, .tm 182]⟩, ⟨some 184, none, .mv, [.tm 183]⟩, ⟨some 185, some (184, true), .mv, [.tm 15]⟩, ⟨some 186, some (184, true), .mv, [.tm 25]⟩, ⟨some 187, some (184, true), .po (.bin .eql), [.tm 185, .tm 186]⟩, ⟨some 188, none, .pick, [.tm 184, .tm 187, .cn (.b false)]⟩, ⟨some 4, none, .mv, [.tm 188]⟩] [4]) .ret)))))))))))))), [.tm 4]⟩
theorem of4 : Fn1.of Try.prog 4 ⟨true, [], false⟩ [[1, 2], [1, 2, 5], [1, 2, 5, 28], [1, 2, 5, 6, 7], [1, 2, 5, 6, 7], [1, 2, 5, 6, 7, 37], [1, 2, 5, 6, 7, 8, 9], [1, 2, 5, 6, 7, 9, 10], [1, 2, 5, 6, 7, 9], [1, 2, 5, 6, 7], [1, 2, 5, 12, 13], [1, 73], [4], [1, 14, 15], [1, 14, 15, 16], [1, 14, 15, 16, 81], [1, 14, 15, 16], [1, 14, 15, 16, 82, 83, 84], [1, 14, 15, 16, 82, 83, 84], [1, 14, 15, 16, 82, 83, 84, 85], [1, 14, 15, 16, 17, 18, 82, 83, 84], [1, 14, 15, 16, 82, 83, 84, 106], [1, 14, 15, 16, 82, 83, 84], [1, 14, 15, 16, 82, 83, 84], [1, 14, 15, 16, 19], [1, 14, 15, 16, 123], [1, 14, 15, 16], [1, 14, 15, 16, 125], [4], [1, 14, 15, 20, 21], [14, 15, 20, 21, 144, 145, 146], [14, 15, 20, 21, 144, 145, 146], [14, 15, 20, 21, 144, 145, 146, 147], [14, 15, 20, 21, 23, 144, 145, 146], [14, 15, 20, 21, 23, 144, 145, 146], [14, 15, 20, 21, 144, 145, 146], [14, 15, 20, 21, 144, 145, 146], [14, 15, 24, 25], [4]] = some F4 := by kernel_rfl
theorem lowestB_ok (n q : Int) (hn : zb 900 n) (hq : zb 900 q) (h1 : 1 ≤ q) : Pure Try.prog 27 [zV n, zV q] (lowT n q) := by
  refine pure_of_wp of27 (Nat.le_of_ble_eq_true rfl) ?_
  refine DecK.no (decide_eq_false (by omega)) ?_
  have hg : 1 ≤ (Int.gcd n q : Int) := by
    have := Int.gcd_pos_of_ne_zero_right n (show q ≠ 0 by omega)
    omega
  have hgq : (Int.gcd n q : Int) ≤ q := Int.le_of_dvd (by omega) (Int.gcd_dvd_right ..)
  have zg : zb 900 (Int.gcd n q : Int) := hq.le (by omega)
  refine CallK.mk _ (Gcd_ok n q (hn.mono (by decide)) (hq.mono (by decide))) rfl ?_
  refine OptK.mk _ rfl ?_
  refine CallK.mk _ (Floor_ok n (Int.gcd n q) (hn.mono (by decide)) (zg.mono (by decide)) (by omega)) rfl ?_
  refine CallK.mk _ (Floor_ok q (Int.gcd n q) (hq.mono (by decide)) (zg.mono (by decide)) (by omega)) rfl ?_
  refine OptK.mk _ rfl ?_
  refine OptK.mk _ rfl ?_
  have z1 := zb_div hn hg
  have z2 := zb_div hq hg
  have p2 : 0 ≤ q / (Int.gcd n q : Int) := Int.ediv_nonneg (by omega) (by omega)
  unfold lowT
  generalize n / (Int.gcd n q : Int) = x at *
  generalize q / (Int.gcd n q : Int) = y at *
  refine CallK.mk _ (Abs_ok x) rfl ?_
  refine CallK.mk _ (I_ok 1152921504606846976 (by decide)) rfl ?_
  refine CallK.mk _ (Cmp_ok x.natAbs 1152921504606846976 ((z1.le (by omega)).mono (by decide)) (by first | exact (zb_64 (by omega)).mono (by decide) | exact ((zb_64 (by omega)).mul (zb_64 (by omega))).mono (by decide))) rfl ?_
  refine DecK.dec (fun g => ?_) (fun g => ?_)
  · repeat' (refine DecK.tt ?_)
    ((repeat' first | refine DecK.tt ?_ | refine DecK.ff ?_ | refine DecK.beq (fun _ => ?_) (fun _ => ?_) | refine DecK.bne (fun _ => ?_) (fun _ => ?_) | refine DecK.dec (fun _ => ?_) (fun _ => ?_) | refine OptK.mk _ rfl ?_ | refine endV (by rfl) ?_) <;> (try with_reducible rfl))
    rw [if_pos (.inl (icmp_gt0.1 g))]; rfl
  refine CallK.mk _ (I_ok 1152921504606846976 (by decide)) rfl ?_
  refine CallK.mk _ (Cmp_ok y 1152921504606846976 (z2.mono (by decide)) (by first | exact (zb_64 (by omega)).mono (by decide) | exact ((zb_64 (by omega)).mul (zb_64 (by omega))).mono (by decide))) rfl ?_
  have g' : ¬ (x.natAbs : Int) > 1152921504606846976 := fun k => g (icmp_gt0.2 k)
  refine DecK.dec (fun k => ?_) (fun k => ?_)
  · ((repeat' first | refine DecK.tt ?_ | refine DecK.ff ?_ | refine DecK.beq (fun _ => ?_) (fun _ => ?_) | refine DecK.bne (fun _ => ?_) (fun _ => ?_) | refine DecK.dec (fun _ => ?_) (fun _ => ?_) | refine OptK.mk _ rfl ?_ | refine endV (by rfl) ?_) <;> (try with_reducible rfl))
    rw [if_pos (.inr (icmp_gt0.1 k))]; rfl
  have k' : ¬ y > 1152921504606846976 := fun j => k (icmp_gt0.2 j)
  refine CallK.mk _ (Small_ok x (z1.mono (by decide))) rfl ?_
  refine CallK.mk _ (Small_ok y (z2.mono (by decide))) rfl ?_
  ((repeat' first | refine DecK.tt ?_ | refine DecK.ff ?_ | refine DecK.beq (fun _ => ?_) (fun _ => ?_) | refine DecK.bne (fun _ => ?_) (fun _ => ?_) | refine DecK.dec (fun _ => ?_) (fun _ => ?_) | refine OptK.mk _ rfl ?_ | refine endV (by rfl) ?_) <;> (try with_reducible rfl))
  rw [if_neg (by omega), small, if_pos (by unfold fits; omega), small, if_pos (by unfold fits; omega)]
  rfl
theorem sgn_pos' {t : Int} : sgn t > 0 ↔ 0 < t := by unfold sgn; split <;> (try split) <;> omega
/-- As seq_mid, the state told behind a second piece. -/
theorem seq_mid2 {P : Program} {x y z : SC} {Q : Exit → St → Prop} {st : St} {α : Type} (S : α → St) (I : α → Prop) (hx : x.wp P (thenQ (fun st' => y.wp P (fun e st2 => Mid S I e st2) st') (fun _ _ => False)) st) (hz : ∀ a, I a → z.wp P Q (S a)) : (SC.seq x (SC.seq y z)).wp P Q st := by
  unfold SC.wp
  refine SC.wp_mono x (fun e st' h => ?_) hx
  cases e with
  | normal =>
    show (SC.seq y z).wp P Q st'
    unfold SC.wp
    refine SC.wp_mono y (fun e st2 h => ?_) h
    obtain ⟨a, rfl, rfl, hI⟩ := h
    exact hz a hI
  | _ => exact h.elim
theorem powB : ∀ k : Nat, (2 : Int) ^ (61 * k) ≤ 1000000 ^ (4 * k)
  | 0 => by decide
  | k + 1 => by
    have ih := powB k
    rw [show 61 * (k + 1) = 61 * k + 61 by omega, show 4 * (k + 1) = 4 * k + 4 by omega, Int.pow_add, Int.pow_add]
    exact Int.mul_le_mul ih (by decide) (by decide) (Int.le_of_lt (pow_pos' _))
theorem front_zb {m : List Int} (fin : Fine m) (hm : m.length ≤ 200) (k : Nat) {s : Int × Int} (h1 : (s.1.natAbs : Int) ≤ 1) (h2 : (s.2.natAbs : Int) ≤ 1) : zb 801 ((m.take k).foldl frontS s).1 ∧ zb 801 ((m.take k).foldl frontS s).2 := by
  obtain ⟨a1, a2⟩ := front_le (m.take k) s 1 (fun t ht => fin.all t (List.mem_of_mem_take ht)) h1 h2
  rw [Int.one_mul] at a1 a2
  have e5 : ∀ {x : Int}, (x.natAbs : Int) ≤ 2 ^ (61 * (m.take k).length) → zb 801 x := fun {x} hx => by
    unfold zb
    refine Int.lt_of_le_of_lt (Int.le_trans hx (Int.le_trans (powB (m.take k).length) (pow_mono (m := 800) (by rw [List.length_take]; omega)))) ?_
    have e3 : (1000000 : Int) ^ 801 = 1000000 ^ 800 * 1000000 := Int.pow_succ ..
    rw [e3]
    have := Int.mul_lt_mul_of_pos_left (show (1 : Int) < 1000000 by decide) (pow_pos' 800)
    rwa [Int.mul_one] at this
  exact ⟨e5 a1, e5 a2⟩
set_option maxHeartbeats 1000000 in
theorem conv_ok {Q : Exit → St → Prop} {m : List Int} (fin : Fine m) (hm : m.length ≤ 200) {x y e : Int}
    (hQ : ∀ (a b c : Bool) (p q i : Int) (v : Bool), Q (.exit 4) ⟨[(14, .ref 14 0), (15, .v (.n .i64 e)), (20, .ref 20 0), (21, .ref 21 0), (144, .v (intsV m)), (145, .v (.n .i64 m.length)), (146, .v (.n .i64 i)), (147, .v (.b v))], [(21, zCt q b ++ zCt (cont m).2 c), (20, zCt p a ++ zC (cont m).1), (14, [.n .i64 x, .n .i64 y])]⟩) :
    loopW Try.prog [14, 15, 20, 21, 144, 145, 146] L4_0 Q ⟨[(14, .ref 14 0), (15, .v (.n .i64 e)), (20, .ref 20 0), (21, .ref 21 0), (144, .v (intsV m)), (145, .v (.n .i64 m.length)), (146, .v (.n .i64 0))], [(21, zCt 1 false ++ zCt 0 true), (20, zCt 0 true ++ zC 1), (14, [.n .i64 x, .n .i64 y])]⟩ := by
  refine loop_ind3 (fun (p q : Int × Int) (k : Int × Bool × Bool × Bool) => ⟨[(14, .ref 14 0), (15, .v (.n .i64 e)), (20, .ref 20 0), (21, .ref 21 0), (144, .v (intsV m)), (145, .v (.n .i64 m.length)), (146, .v (.n .i64 k.1))], [(21, zCt q.1 k.2.2.1 ++ zCt q.2 k.2.2.2), (20, zCt p.1 k.2.1 ++ zC p.2), (14, [.n .i64 x, .n .i64 y])]⟩) (fun p q k => m.length - k.1.toNat)
    (fun p q k => 0 ≤ k.1 ∧ k.1 ≤ m.length ∧ p = (m.take k.1.toNat).foldl frontS (0, 1) ∧ q = (m.take k.1.toNat).foldl frontS (1, 0)) (0, 1) (1, 0) (0, true, false, true) ⟨by simp, by simp, by simp, by simp⟩ ?_
  rintro ⟨p0, p1⟩ ⟨q0, q1⟩ ⟨kz, a, b, c⟩ ⟨h1, h2, h3, h4⟩ ih
  simp only at h1 h2 h3 h4
  obtain ⟨k, rfl⟩ : ∃ k : Nat, kz = k := ⟨kz.toNat, by omega⟩
  simp only [Int.toNat_natCast] at h3 h4
  have wi : IntKind.i64.wrap ((k : Int) + 1) = ((k + 1 : Nat) : Int) := by simp (discharger := omega) only [w64, wu64, wu8, w32, wu32, tdivC, tmodC]; omega
  have zp := front_zb fin hm k (s := (0, 1)) (by decide) (by decide)
  have zq := front_zb fin hm k (s := (1, 0)) (by decide) (by decide)
  rw [← h3] at zp
  rw [← h4] at zq
  simp only at zp zq
  refine DecK.dec (fun g => ?_) (fun g => ?_)
  · simp only at g
    obtain ⟨t, ht, _, mt⟩ := at_ex'' (l := m) (k := k) (by omega)
    have bt := fin.all t mt
    have zt : zb 5 t := by unfold zb; omega
    have e1 : (m.take (k + 1)).foldl frontS (0, 1) = (p1, p0 + p1 * t) := by rw [List.take_add_one, ht, Option.toList_some, List.foldl_append, ← h3]; rfl
    have e2 : (m.take (k + 1)).foldl frontS (1, 0) = (q1, q0 + q1 * t) := by rw [List.take_add_one, ht, Option.toList_some, List.foldl_append, ← h4]; rfl
    refine OptK.mk _ (ria k rfl (by omega)) ?_
    refine OptK.mk _ (rld1 (g := fun x => .n .i64 x) ht) ?_
    have ft : fits t := by unfold fits; omega
    (repeat' first | refine OptK.mk _ rfl ?_)
    refine CallK.mk _ (I_ok t ft) rfl ?_
    refine CallK.mk _ (Times_ok p1 t (zp.2.mono (by decide)) (zt.mono (by decide))) rfl ?_
    refine CallK.mk _ (.of (.cons zT (.cons (.refl _) .nil)) (Plus_ok p0 (p1 * t) (zp.1.mono (by decide)) ((zp.2.mul zt).mono (by decide)))) rfl ?_
    (repeat' first | refine OptK.mk _ rfl ?_)
    refine CallK.mk _ (I_ok t ft) rfl ?_
    refine CallK.mk _ (.of (.cons zT (.cons (.refl _) .nil)) (Times_ok q1 t (zq.2.mono (by decide)) (zt.mono (by decide)))) rfl ?_
    refine CallK.mk _ (.of (.cons zT (.cons (.refl _) .nil)) (Plus_ok q0 (q1 * t) (zq.1.mono (by decide)) ((zq.2.mul zt).mono (by decide)))) rfl ?_
    (repeat' first | refine OptK.mk _ rfl ?_)
    refine ih (p1, p0 + p1 * t) (q1, q0 + q1 * t) (IntKind.i64.wrap ((k : Int) + 1), false, c, false) ⟨?_, ?_, ?_, ?_⟩ ?_
    all_goals simp only [wi, Int.toNat_natCast]
    · omega
    · omega
    · exact e1.symm
    · exact e2.symm
    · omega
  · rw [List.take_of_length_le (by simp only at g; omega)] at h3 h4
    have e1 := front_eq m (0, 1)
    have e2 := front_eq m (1, 0)
    rw [← h3] at e1
    rw [← h4] at e2
    simp only at e1 e2
    rw [show p1 = (cont m).1 by omega, show q1 = (cont m).2 by omega]
    exact hQ _ _ _ _ _ _ _
theorem fracTerms_pure (n d : Int) (l : List Int) (hn : fits n) (hd : fits d) (hl : ∀ t ∈ l, fits t) (hll : l.length ≤ 9000000000000000000) : Pure Try.prog 4 [fracV n d, intsV l] (.b true) := by
  refine pure_of_wp of4 (Nat.le_of_ble_eq_true rfl) ?_
  refine CallK.mk _ (fracErr_ok n d hn hd) rfl ?_
  -- the terms by the reference
  refine seq_mid2 (fun (_ : Unit) => ⟨[(1, .v (intsV l)), (2, .ref 2 0), (5, .own 5 1 0 (if frErr n d = 0 then cf n d else []).length), (12, .v (intsV (if frErr n d = 0 then cf n d else []))), (13, .v (.n .i64 (frErr n d)))], [(5, (if frErr n d = 0 then cf n d else []).flatMap ni), (2, [.n .i64 n, .n .i64 d])]⟩) (fun _ => True) ?_ fun _ _ => ?_
  · refine DecK.beq (fun h => ?_) (fun h => ?_)
    · rw [if_pos h]
      obtain ⟨bn, bd, _⟩ := frErr_0 h
      have hcl := cf_len 61 n d (by omega)
      refine CallK.mk _ (I_ok n hn) rfl ?_
      refine CallK.mk _ (I_ok d hd) rfl ?_
      refine OptK.mk _ rfl ?_
      refine OptK.mk _ rfl ?_
      refine loop_ind4 (fun (o : List Int) (a b : Int) (f : Bool) => ⟨[(1, .v (intsV l)), (2, .ref 2 0), (5, .own 5 1 0 o.length), (6, .ref 6 0), (7, .ref 7 0)], bif f then [(5, o.flatMap ni), (7, zC b), (6, zC a), (2, [.n .i64 n, .n .i64 d])] else [(7, zC b), (6, zC a), (5, o.flatMap ni), (2, [.n .i64 n, .n .i64 d])]⟩) (fun o a b f => b.toNat)
        (fun o a b f => o ++ cf a b = cf n d ∧ -1152921504606846976 ≤ a ∧ a ≤ 1152921504606846976 ∧ 0 ≤ b ∧ b ≤ 1152921504606846976) [] n d false (by simp; omega) ?_
      intro o a b f ⟨h1, h2, h3, h4, h5⟩ ih
      have e5 : 0 < b → small (a / b) = a / b := fun g => small_id (by
        have a1 := ediv_abs_le (a := a) (show 1 ≤ b by omega)
        unfold fits; omega)
      cases f
      all_goals
        refine CallK.mk _ (Sign_ok b) rfl ?_
        by_cases g : 0 < b
        · refine DecK.yes (decide_eq_true (sgn_pos'.2 g)) ?_
          have za : zb 5 a := by unfold zb; omega
          have zbb : zb 5 b := by unfold zb; omega
          have e2 := Int.emod_lt_of_pos a g
          have e3 := Int.emod_nonneg a (show b ≠ 0 by omega)
          have e6 := e5 g
          rw [cf_pos g] at h1
          have hol : o.length ≤ 122 := by
            have := congrArg List.length h1
            simp only [List.length_append] at this
            omega
          refine CallK.mk _ (Split_ok a b (za.mono (by decide)) (zbb.mono (by decide)) (by omega)) rfl ?_
          (repeat' first | refine OptK.mk _ rfl ?_)
          refine CallK.mk _ (Fits_ok (a / b) ((za.div (by omega)).mono (by decide))) rfl ?_
          rw [e6]
          refine OptK.mk _ (own_app (f := ni) hz_ni rfl rfl (by omega)) ?_
          (repeat' first | refine OptK.mk _ rfl ?_)
          refine ih (o ++ [a / b]) b (a % b) true ⟨?_, ?_, ?_, ?_, ?_⟩ ?_
          · rw [← h1]; simp
          all_goals omega
        · refine DecK.no (decide_eq_false fun h => g (sgn_pos'.1 h)) ?_
          rw [cf_zero g, List.append_nil] at h1
          subst h1
          refine CallK.mk _ (terms_ok n d hn hd) rfl ?_
          rw [if_pos h]
          exact Mid.mk () rfl rfl trivial
    · refine CallK.mk _ (terms_ok n d hn hd) rfl ?_
      rw [if_neg h]
      exact Mid.mk () rfl rfl trivial
  · generalize hw : (if frErr n d = 0 then cf n d else []) = want
    have hwl : want.length ≤ 122 := by
      rw [← hw]
      split
      · rename_i h
        obtain ⟨_, bd, _⟩ := frErr_0 h
        exact cf_len 61 n d (by omega)
      · simp
    refine CallK.mk _ fracs_ok rfl ?_
    (repeat' first | refine DecK.tt ?_ | refine DecK.ff ?_)
    refine CallK.mk _ (fracErr_ok n d hn hd) rfl ?_
    refine DecK.bne (fun h => absurd rfl h) (fun _ => ?_)
    (repeat' first | refine DecK.tt ?_ | refine DecK.ff ?_)
    refine CallK.mk _ ((eqI_ok want want (by omega)).args (by simp only [snapRow hz_ni])) rfl ?_
    rw [decide_eq_true rfl]
    (repeat' first | refine DecK.tt ?_ | refine DecK.ff ?_)
    refine CallK.mk _ (from_ok l hll) rfl ?_
    obtain ⟨x, y, e, hfr⟩ : ∃ x y e, (if termsBad l = 0 then fromT l else .tup [fracV 0 0, .n .i64 (termsBad l)]) = .tup [fracV x y, .n .i64 e] := by
      split
      · exact madeT_ex _ _ _
      · exact ⟨_, _, _, rfl⟩
    rw [hfr]
    have hfb : termsBad l ≠ 0 → x = 0 ∧ y = 0 ∧ e = termsBad l := fun h => by
      rw [if_neg h] at hfr
      simp only [V.tup.injEq, List.cons.injEq, V.agg.injEq, V.n.injEq, true_and, and_true] at hfr
      exact ⟨hfr.1.1.symm, hfr.1.2.symm, hfr.2.symm⟩
    refine OptK.mk _ rfl ?_
    refine DecK.beq (fun h0 => ?ga) (fun h0 => ?gb)
    case' ga => have hb0 : ((8 : Int) = 0 ∧ ∀ (j : Nat) z, j < (0 : Int).toNat → l[j]? = some z → -1152921504606846976 ≤ z ∧ z ≤ 1152921504606846976 ∧ (1 ≤ j → 1 ≤ z)) ∨ ((8 : Int) ≠ 0 ∧ termsBad l = 8) := .inr ⟨by decide, by rw [List.eq_nil_of_length_eq_zero (l := l) (by omega)]; rfl⟩
    case' gb => have hb0 : ((0 : Int) = 0 ∧ ∀ (j : Nat) z, j < (0 : Int).toNat → l[j]? = some z → -1152921504606846976 ≤ z ∧ z ≤ 1152921504606846976 ∧ (1 ≤ j → 1 ≤ z)) ∨ ((0 : Int) ≠ 0 ∧ termsBad l = 0) := .inl ⟨rfl, fun j z hj => by simp at hj⟩
    all_goals
      refine loop_ind2 (fun (b i : Int) => ⟨[(1, .v (intsV l)), (14, .ref 14 0), (15, .v (.n .i64 e)), (16, .v (.n .i64 b)), (82, .v (intsV l)), (83, .v (.n .i64 l.length)), (84, .v (.n .i64 i))], [(14, [.n .i64 x, .n .i64 y])]⟩) (fun b i => l.length - i.toNat)
        (fun b i => 0 ≤ i ∧ i ≤ l.length ∧ ((b = 0 ∧ ∀ (j : Nat) z, j < i.toNat → l[j]? = some z → -1152921504606846976 ≤ z ∧ z ≤ 1152921504606846976 ∧ (1 ≤ j → 1 ≤ z)) ∨ (b ≠ 0 ∧ termsBad l = b)) ∧ (b = 0 → l ≠ [])) _ 0 ⟨by omega, by omega, hb0, fun h => by first | (cases h; done) | (rintro rfl; exact h0 rfl)⟩ ?_
      clear hb0 h0
      intro b iz ⟨h1, h2, h3, h4⟩ ih
      obtain ⟨i, rfl⟩ : ∃ i : Nat, iz = i := ⟨iz.toNat, by omega⟩
      simp only [Int.toNat_natCast] at h3
      have wi : IntKind.i64.wrap ((i : Int) + 1) = ((i + 1 : Nat) : Int) := by simp (discharger := omega) only [w64, wu64, wu8, w32, wu32, tdivC, tmodC]; omega
      refine DecK.dec (fun g => ?_) (fun g => ?_)
      · obtain ⟨z, hz, _, _⟩ := at_ex'' (l := l) (k := i) (by omega)
        refine OptK.mk _ (ria i rfl (by omega)) ?_
        refine OptK.mk _ (rld1 (g := fun x => .n .i64 x) hz) ?_
        have fin : ∀ b', (b' = 4 ∧ termsBad l = 4) ∨ (b' = b ∧ b ≠ 0) ∨ (b' = 0 ∧ b = 0 ∧ -1152921504606846976 ≤ z ∧ z ≤ 1152921504606846976 ∧ (1 ≤ i → 1 ≤ z)) → _ := fun b' hb => by
          refine ih b' (IntKind.i64.wrap ((i : Int) + 1)) ⟨?_, ?_, ?_, ?_⟩ ?_
          all_goals try simp only [wi, Int.toNat_natCast]
          · omega
          · omega
          · rcases hb with ⟨rfl, hb⟩ | ⟨rfl, hb⟩ | ⟨rfl, rfl, hb⟩
            · exact .inr ⟨by decide, hb⟩
            · rcases h3 with ⟨h3, _⟩ | h3
              · exact absurd h3 hb
              · exact .inr h3
            · rcases h3 with ⟨_, h3⟩ | h3
              · refine .inl ⟨rfl, fun j w hj hw => ?_⟩
                by_cases ej : j = i
                · subst ej; rw [hz] at hw; cases hw; exact hb
                · exact h3 j w (by omega) hw
              · exact absurd rfl h3.1
          · intro hb0
            rcases hb with ⟨rfl, hb⟩ | ⟨rfl, hb⟩ | ⟨rfl, rfl, hb⟩
            · cases hb0
            · exact h4 hb0
            · exact h4 rfl
          · omega
        refine DecK.beq (fun gb => ?_) (fun gb => ?_)
        · refine DecK.dec (fun g1 => ?_) (fun g1 => ?_)
          · (repeat' first | refine DecK.tt ?_ | refine DecK.ff ?_)
            exact fin 4 (.inl ⟨rfl, bad_4 hz (.inl g1)⟩)
          refine DecK.dec (fun g2 => ?_) (fun g2 => ?_)
          · (repeat' first | refine DecK.tt ?_ | refine DecK.ff ?_)
            exact fin 4 (.inl ⟨rfl, bad_4 hz (.inr (.inl g2))⟩)
          refine DecK.dec (fun g3 => ?_) (fun g3 => ?_)
          · refine DecK.dec (fun g4 => ?_) (fun g4 => ?_)
            · exact fin 4 (.inl ⟨rfl, bad_4 hz (.inr (.inr ⟨by omega, g4⟩))⟩)
            · exact fin b (.inr (.inr ⟨gb, gb, by omega, by omega, fun _ => by omega⟩))
          · (repeat' first | refine DecK.tt ?_ | refine DecK.ff ?_)
            exact fin b (.inr (.inr ⟨gb, gb, by omega, by omega, fun _ => by omega⟩))
        · (repeat' first | refine DecK.tt ?_ | refine DecK.ff ?_)
          exact fin b (.inr (.inl ⟨rfl, gb⟩))
      · have done : ∀ b, b ≠ 0 → termsBad l = b → x = 0 ∧ y = 0 ∧ e = b := fun b hb h => by
          obtain ⟨k1, k2, k3⟩ := hfb (by rw [h]; exact hb)
          exact ⟨k1, k2, by rw [k3, h]⟩
        refine DecK.beq (fun gb => ?_) (fun gb => ?_)
        · subst gb
          have hl0 := h4 rfl
          have h3 : ∀ (j : Nat) z, j < i → l[j]? = some z → -1152921504606846976 ≤ z ∧ z ≤ 1152921504606846976 ∧ (1 ≤ j → 1 ≤ z) := by
            rcases h3 with ⟨_, h3⟩ | h3
            · exact h3
            · exact absurd rfl h3.1
          have hfine : Fine l := fine_of (List.length_pos_iff.2 hl0) fun j z hj => h3 j z (by have := (List.getElem?_eq_some_iff.1 hj).1; omega) hj
          obtain ⟨z, hz, hz2, hz3⟩ := last_at hfine.ne
          have hbad := hfine.bad
          rw [hz2] at hbad
          have wl : IntKind.i64.wrap ((l.length : Int) - 1) = ((l.length - 1 : Nat) : Int) := by have := hfine.ne; simp (discharger := omega) only [w64, wu64, wu8, w32, wu32, tdivC, tmodC]; omega
          by_cases hq : 1 < l.length ∧ z = 1
          · obtain ⟨rfl, rfl, rfl⟩ := done 3 (by decide) (by rw [hbad, if_pos ⟨hq.1, by rw [hq.2]⟩])
            refine DecK.dec (fun g1 => ?_) (fun g1 => by omega)
            (repeat' first | refine DecK.tt ?_ | refine DecK.ff ?_)
            refine OptK.mk _ (ria (l.length - 1) wl (by have := hfine.ne; omega)) ?_
            refine OptK.mk _ (rld1 (g := fun x => .n .i64 x) hz) ?_
            refine DecK.beq (fun g2 => ?_) (fun g2 => absurd hq.2 g2)
            (repeat' first | refine DecK.tt ?_ | refine DecK.ff ?_ | refine DecK.yes rfl ?_ | refine OptK.mk _ (eqFr _ _ _ _) ?_)
            rfl
          · rw [if_neg (fun h => hq ⟨h.1, Option.some.inj h.2⟩)] at hbad
            have hfm : Fine (l.take 200) := ⟨by rw [List.length_take]; have := hfine.ne; omega, fun t ht => hfine.all t (List.mem_of_mem_take ht), fun t ht => hfine.pos t (by rw [List.drop_take] at ht; exact List.mem_of_mem_take ht)⟩
            rw [if_pos hbad, ← from_take hfine.pos] at hfr
            have hlm : (l.take 200).length ≤ 200 := by rw [List.length_take]; omega
            have hpos : 1 ≤ (cont (l.take 200)).2 := by
              cases hm : l.take 200 with
              | nil => have := hfm.ne; rw [hm] at this; simp at this
              | cons t m =>
                have := hfm.pos
                rw [hm] at this
                exact (cont_pos this).2.2
            have z1 := front_zb hfm hlm (l.take 200).length (s := (0, 1)) (by decide) (by decide)
            have z2 := front_zb hfm hlm (l.take 200).length (s := (1, 0)) (by decide) (by decide)
            rw [List.take_length] at z1 z2
            have z1 : zb 801 (cont (l.take 200)).1 := by have h := z1.2; rw [front_eq] at h; simpa using h
            have z2 : zb 801 (cont (l.take 200)).2 := by have h := z2.2; rw [front_eq] at h; simpa using h
            have hlow := lowestB_ok (cont (l.take 200)).1 (cont (l.take 200)).2 (z1.mono (by decide)) (z2.mono (by decide)) hpos
            rw [lowT_cont, hfr] at hlow
            have hmin : l.take (if (200 : Int) < (l.length : Int) then (200 : Int) else (l.length : Int)).toNat = l.take 200 := by
              split
              · rfl
              · rw [Int.toNat_natCast, List.take_length, List.take_of_length_le (by omega)]
            refine DecK.dec (fun g1 => ?_) (fun g1 => ?_)
            · (repeat' first | refine DecK.tt ?_ | refine DecK.ff ?_)
              refine OptK.mk _ (ria (l.length - 1) wl (by have := hfine.ne; omega)) ?_
              refine OptK.mk _ (rld1 (g := fun x => .n .i64 x) hz) ?_
              refine DecK.beq (fun g2 => absurd ⟨by omega, g2⟩ hq) (fun g2 => ?_)
              (repeat' first | refine DecK.tt ?_ | refine DecK.ff ?_ | refine DecK.bne (fun h => absurd rfl h) (fun _ => ?_))
              refine CallK.mk _ (I_ok 1 (by decide)) rfl ?_
              refine CallK.mk _ (I_ok 1 (by decide)) rfl ?_
              (repeat' first | refine OptK.mk _ rfl ?_)
              refine OptK.mk _ (row_to (f := ni) hz_ni (by split <;> omega) (by split <;> omega)) ?_
              rw [hmin]
              refine loop_eq (st' := ⟨[(14, .ref 14 0), (15, .v (.n .i64 e)), (20, .ref 20 0), (21, .ref 21 0), (144, .v (intsV (l.take 200))), (145, .v (.n .i64 (l.take 200).length)), (146, .v (.n .i64 0))], [(21, zCt 1 false ++ zCt 0 true), (20, zCt 0 true ++ zC 1), (14, [.n .i64 x, .n .i64 y])]⟩) (by rw [zCt_zero]; rfl) ?_
              refine conv_ok hfm hlm fun a b c p q i v => ?_
              (repeat' first | refine OptK.mk _ rfl ?_)
              refine CallK.mk _ (.of (.cons (.refl _) (.cons zT .nil)) hlow) rfl ?_
              (repeat' first | refine DecK.tt ?_ | refine DecK.yes rfl ?_ | refine OptK.mk _ (eqFr _ _ _ _) ?_ | refine OptK.mk _ rfl ?_)
              (repeat' first | refine DecK.tt ?_ | refine DecK.yes rfl ?_ | refine OptK.mk _ (eqFr _ _ _ _) ?_ | refine OptK.mk _ rfl ?_)
              refine DecK.yes (decide_eq_true ⟨rfl, rfl⟩) ?_
              (repeat' first | refine DecK.tt ?_ | refine DecK.yes rfl ?_)
              refine endV (by rfl) ?_
              simp
            · (repeat' first | refine DecK.tt ?_ | refine DecK.ff ?_ | refine DecK.bne (fun h => absurd rfl h) (fun _ => ?_))
              refine CallK.mk _ (I_ok 1 (by decide)) rfl ?_
              refine CallK.mk _ (I_ok 1 (by decide)) rfl ?_
              (repeat' first | refine OptK.mk _ rfl ?_)
              refine OptK.mk _ (row_to (f := ni) hz_ni (by split <;> omega) (by split <;> omega)) ?_
              rw [hmin]
              refine loop_eq (st' := ⟨[(14, .ref 14 0), (15, .v (.n .i64 e)), (20, .ref 20 0), (21, .ref 21 0), (144, .v (intsV (l.take 200))), (145, .v (.n .i64 (l.take 200).length)), (146, .v (.n .i64 0))], [(21, zCt 1 false ++ zCt 0 true), (20, zCt 0 true ++ zC 1), (14, [.n .i64 x, .n .i64 y])]⟩) (by rw [zCt_zero]; rfl) ?_
              refine conv_ok hfm hlm fun a b c p q i v => ?_
              (repeat' first | refine OptK.mk _ rfl ?_)
              refine CallK.mk _ (.of (.cons (.refl _) (.cons zT .nil)) hlow) rfl ?_
              (repeat' first | refine DecK.tt ?_ | refine DecK.yes rfl ?_ | refine OptK.mk _ (eqFr _ _ _ _) ?_ | refine OptK.mk _ rfl ?_)
              (repeat' first | refine DecK.tt ?_ | refine DecK.yes rfl ?_ | refine OptK.mk _ (eqFr _ _ _ _) ?_ | refine OptK.mk _ rfl ?_)
              refine DecK.yes (decide_eq_true ⟨rfl, rfl⟩) ?_
              (repeat' first | refine DecK.tt ?_ | refine DecK.yes rfl ?_)
              refine endV (by rfl) ?_
              simp
        · (repeat' first | refine DecK.tt ?_ | refine DecK.ff ?_)
          have h4 : termsBad l = b := by
            rcases h3 with ⟨h3, _⟩ | h3
            · exact absurd h3 gb
            · exact h3.2
          obtain ⟨rfl, rfl, rfl⟩ := done b gb h4
          refine DecK.bne (fun _ => ?_) (fun h => absurd h gb)
          refine DecK.beq (fun _ => ?_) (fun h => absurd rfl h)
          (repeat' first | refine DecK.tt ?_ | refine DecK.ff ?_ | refine DecK.yes rfl ?_ | refine OptK.mk _ (eqFr _ _ _ _) ?_)
          rfl
end Go.Proofs.Ytjeafcngljbdlaa.Sv

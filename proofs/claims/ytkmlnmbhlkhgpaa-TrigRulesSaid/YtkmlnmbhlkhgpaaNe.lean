/- The statements on numbers of 64 and 128 bits, but for roots and for quotients of products. No condition. -/
import Derived.Test.YtkmlnmbhlkhgpaaNd
namespace Go.Proofs.Ytkmlnmbhlkhgpaa.Sv
open Go Go.RowKit
set_option linter.unusedVariables false
set_option linter.unusedSimpArgs false
set_option maxRecDepth 100000
/-- spyglass/spyref1.WideOf -/
def F29 : Fn1 := ⟨12, .seq (.reg [⟨some 1, none, .box, [.tm 0]⟩, ⟨some 2, none, .alloc [.b false, .sl 0 [] true], []⟩] [1, 2]) (.seq (.dreg [⟨some 3, none, .fa 0, [.tm 1]⟩, ⟨some 4, none, .ld false 1 false, [.tm 3]⟩, ⟨some 5, none, .call 34, [.tm 4]⟩, ⟨some 6, none, .call 59, [.cn (.n .i64 64)]⟩, ⟨some 7, none, .call 50, [.tm 5, .tm 6]⟩, ⟨some 8, none, .fa 1, [.tm 1]⟩, ⟨some 9, none, .ld false 1 false, [.tm 8]⟩, ⟨some 10, none, .call 87, [.tm 9]⟩, ⟨some 11, none, .call 48, [.tm 7, .tm 10]⟩, ⟨none, none, .st 2, [.tm 2, .tm 11]⟩] [] [2]) .ret), [.cell 2 true 2]⟩
theorem of29 : Fn1.of Try.prog 29 false [[1, 2], [2]] = some F29 := by kernel_rfl
/-- spyglass/spylaw1.NumQuotients$1 -/
def F40 : Fn1 := ⟨10, .seq (.reg [⟨some 2, none, .box, [.tm 0]⟩, ⟨some 4, none, .mv, [.cn (.b false)]⟩] [1, 2]) (.seq (.dreg [⟨some 5, none, .ld true 2 false, [.tm 2]⟩, ⟨some 6, none, .mv, [.tm 1]⟩, ⟨some 7, none, .call 34, [.tm 6]⟩, ⟨some 8, none, .call 35, [.tm 5, .tm 7]⟩, ⟨some 9, none, .po (.bin .eql), [.tm 8, .cn (.n .i64 0)]⟩, ⟨some 4, none, .mv, [.tm 9]⟩] [] [4]) .ret), [.tm 4]⟩
theorem of40 : Fn1.of Try.prog 40 false [[1, 2], [4]] = some F40 := by kernel_rfl
/-- spyglass/spylaw1.NumSums$1 -/
def F43 : Fn1 := ⟨22, .seq (.reg [⟨some 3, none, .box, [.tm 0]⟩, ⟨some 6, none, .mv, [.cn (.b false)]⟩] [1, 2, 3]) (.seq (.reg [⟨some 10, none, .ld true 2 false, [.tm 3]⟩, ⟨some 11, none, .call 44, [.tm 10]⟩, ⟨some 9, none, .mv, [.tm 11]⟩, ⟨some 12, none, .po (.ext 0), [.tm 9]⟩, ⟨some 13, none, .po (.ext 1), [.tm 9]⟩, ⟨some 7, none, .mv, [.tm 12]⟩, ⟨some 8, none, .mv, [.tm 13]⟩] [1, 2, 7, 8]) (.seq (.reg [⟨some 14, none, .mv, [.tm 1]⟩, ⟨some 15, none, .mv, [.tm 7]⟩, ⟨some 16, none, .po (.bin .eql), [.tm 14, .tm 15]⟩, ⟨some 17, none, .mv, [.tm 16]⟩, ⟨some 18, some (17, true), .mv, [.tm 2]⟩, ⟨some 19, some (17, true), .mv, [.tm 8]⟩, ⟨some 20, some (17, true), .po (.beq false), [.tm 18, .tm 19]⟩, ⟨some 21, none, .pick, [.tm 17, .tm 20, .cn (.b false)]⟩, ⟨some 6, none, .mv, [.tm 21]⟩] [6]) .ret)), [.tm 6]⟩
theorem of43 : Fn1.of Try.prog 43 false [[1, 2, 3], [1, 2, 7, 8], [6]] = some F43 := by kernel_rfl
/-- spyglass/spylaw1.NumWides$1 -/
def F58 : Fn1 := ⟨19, .seq (.reg [⟨some 2, none, .box, [.tm 0]⟩, ⟨some 3, none, .box, [.tm 1]⟩, ⟨some 4, none, .mv, [.cn (.b false)]⟩] [2, 3]) (.seq (.dreg [⟨some 8, none, .ld true 2 false, [.tm 2]⟩, ⟨some 9, none, .call 29, [.tm 8]⟩, ⟨some 10, none, .ld true 2 false, [.tm 3]⟩, ⟨some 11, none, .call 49, [.tm 9, .tm 10]⟩, ⟨some 12, none, .call 59, [.cn (.n .i64 128)]⟩, ⟨some 13, none, .call 33, [.tm 11, .tm 12]⟩, ⟨some 7, none, .mv, [.tm 13]⟩, ⟨some 14, none, .po (.ext 0), [.tm 7]⟩, ⟨some 15, none, .po (.ext 1), [.tm 7]⟩, ⟨some 5, none, .alloc [.b false, .sl 0 [] true], []⟩, ⟨some 6, none, .alloc [.b false, .sl 0 [] true], []⟩, ⟨none, none, .st 2, [.tm 5, .tm 14]⟩, ⟨none, none, .st 2, [.tm 6, .tm 15]⟩] [(8, 11)] [6]) (.seq (.reg [⟨some 16, none, .ld true 2 false, [.tm 6]⟩, ⟨some 17, none, .call 60, [.tm 16]⟩, ⟨some 18, none, .po (.bin .eql), [.tm 17, .cn (.n .i64 0)]⟩, ⟨some 4, none, .mv, [.tm 18]⟩] [4]) .ret)), [.tm 4]⟩
theorem of58 : Fn1.of Try.prog 58 false [[2, 3], [6], [4]] = some F58 := by kernel_rfl
/-- live: [5, 6, 7] -/
def L6_0 : SC := .seq (.reg [⟨some 8, none, .po (.bin .lss), [.tm 7, .tm 6]⟩] [5, 6, 7, 8]) (.seq (.cond (.tm 8) .skip (.exit 0)) (.seq (.block 1 (.seq (.reg [⟨some 9, none, .mv, [.tm 7]⟩, ⟨some 10, none, .ia none 1, [.tm 5, .tm 7]⟩, ⟨some 11, none, .ld false 1 true, [.tm 10]⟩, ⟨some 2, none, .mv, [.tm 9]⟩, ⟨some 3, none, .mv, [.tm 11]⟩] [2, 3, 5, 6, 7]) (.seq (.reg [⟨some 12, none, .mv, [.tm 3]⟩, ⟨some 13, none, .mv, [.tm 2]⟩, ⟨some 14, none, .po (.bin .neq), [.tm 12, .tm 13]⟩] [5, 6, 7, 14]) (.cond (.tm 14) (.seq (.reg [⟨some 0, none, .mv, [.cn (.b false)]⟩] [0]) .ret) .skip)))) (.reg [⟨some 15, none, .po (.bin .add), [.tm 7, .cn (.n .i64 1)]⟩, ⟨some 7, none, .mv, [.tm 15]⟩] [5, 6, 7])))
/-- spyglass/spylaw1.Names -/
def F6 : Fn1 := ⟨39, .seq (.reg [⟨some 0, none, .mv, [.cn (.b false)]⟩] []) (.seq (.reg [⟨some 4, none, .po (.bsl 19 [.n .i64 0] [(0, 1), (1, 1), (2, 1), (3, 1), (4, 1), (5, 1), (6, 1), (7, 1), (8, 1), (9, 1), (10, 1), (11, 1), (12, 1), (13, 1), (14, 1), (15, 1), (16, 1), (17, 1), (18, 1)]), [.cn (.n .i64 0), .cn (.n .i64 1), .cn (.n .i64 2), .cn (.n .i64 3), .cn (.n .i64 4), .cn (.n .i64 5), .cn (.n .i64 6), .cn (.n .i64 7), .cn (.n .i64 8), .cn (.n .i64 9), .cn (.n .i64 10), .cn (.n .i64 11), .cn (.n .i64 12), .cn (.n .i64 13), .cn (.n .i64 14), .cn (.n .i64 15), .cn (.n .i64 16), .cn (.n .i64 17), .cn (.n .i64 18)]⟩, ⟨some 1, none, .mv, [.tm 4]⟩] [1]) (.seq (.seq (.reg [⟨some 5, none, .mv, [.tm 1]⟩, ⟨some 6, none, .len false, [.tm 5]⟩, ⟨some 7, none, .mv, [.cn (.n .i64 0)]⟩] [5, 6, 7]) (.block 0 (.loop [5, 6, 7] L6_0))) (.seq (.reg [⟨some 16, none, .call 28, []⟩, ⟨some 17, none, .mv, [.tm 16]⟩, ⟨some 18, none, .pick, [.tm 17, .cn (.b true), .cn (.b false)]⟩, ⟨some 19, none, .mv, [.tm 18]⟩, ⟨some 20, none, .pick, [.tm 19, .cn (.b true), .cn (.b false)]⟩, ⟨some 21, none, .mv, [.tm 20]⟩, ⟨some 22, none, .pick, [.tm 21, .cn (.b true), .cn (.b false)]⟩, ⟨some 23, none, .mv, [.tm 22]⟩, ⟨some 24, none, .pick, [.tm 23, .cn (.b true), .cn (.b false)]⟩, ⟨some 25, none, .mv, [.tm 24]⟩, ⟨some 26, none, .pick, [.tm 25, .cn (.b true), .cn (.b false)]⟩, ⟨some 27, none, .mv, [.tm 26]⟩, ⟨some 28, none, .pick, [.tm 27, .cn (.b true), .cn (.b false)]⟩, ⟨some 29, none, .mv, [.tm 28]⟩, ⟨some 30, none, .pick, [.tm 29, .cn (.b true), .cn (.b false)]⟩, ⟨some 31, none, .mv, [.tm 30]⟩, ⟨some 32, none, .pick, [.tm 31, .cn (.b true), .cn (.b false)]⟩, ⟨some 33, none, .mv, [.tm 32]⟩, ⟨some 34, none, .pick, [.tm 33, .cn (.b true), .cn (.b false)]⟩, ⟨some 35, none, .mv, [.tm 34]⟩, ⟨some 36, none, .pick, [.tm 35, .cn (.b true), .cn (.b false)]⟩, ⟨some 37, none, .mv, [.tm 36]⟩, ⟨some 38, none, .pick, [.tm 37, .cn (.b true), .cn (.b false)]⟩, ⟨some 0, none, .mv, [.tm 38]⟩] [0]) .ret))), [.tm 0]⟩
theorem of6 : Fn1.of Try.prog 6 false [[], [1], [5, 6, 7], [5, 6, 7], [5, 6, 7, 8], [2, 3, 5, 6, 7], [5, 6, 7, 14], [0], [5, 6, 7], [0]] = some F6 := by kernel_rfl
/-- spyglass/spylaw1.NumWideQuotients -/
def F7 : Fn1 := ⟨70, .seq (.reg [⟨some 2, none, .box, [.tm 0]⟩, ⟨some 4, none, .mv, [.cn (.b false)]⟩] [1, 2]) (.seq (.reg [⟨some 12, none, .ld true 2 false, [.tm 2]⟩, ⟨some 13, none, .call 29, [.tm 12]⟩, ⟨some 5, none, .alloc [.b false, .sl 0 [] true], []⟩, ⟨none, none, .st 2, [.tm 5, .tm 13]⟩] [1, 2, 5]) (.seq (.reg [⟨some 15, none, .ld true 2 false, [.tm 5]⟩, ⟨some 16, none, .mv, [.tm 1]⟩, ⟨some 17, none, .call 30, [.tm 15, .tm 16, .cn (.b false)]⟩, ⟨some 14, none, .mv, [.tm 17]⟩, ⟨some 18, none, .po (.ext 0), [.tm 14]⟩, ⟨some 19, none, .po (.ext 1), [.tm 14]⟩, ⟨some 6, none, .mv, [.tm 18]⟩, ⟨some 7, none, .mv, [.tm 19]⟩] [1, 2, 5, 6, 7]) (.seq (.reg [⟨some 21, none, .ld true 2 false, [.tm 2]⟩, ⟨some 22, none, .mv, [.tm 1]⟩, ⟨some 23, none, .call 31, [.tm 21, .tm 22]⟩, ⟨some 20, none, .mv, [.tm 23]⟩, ⟨some 24, none, .po (.ext 0), [.tm 20]⟩, ⟨some 25, none, .po (.ext 1), [.tm 20]⟩, ⟨some 8, none, .mv, [.tm 24]⟩, ⟨some 9, none, .mv, [.tm 25]⟩] [1, 2, 5, 6, 7, 8, 9]) (.seq (.seq (.reg [⟨some 26, none, .mv, [.tm 1]⟩, ⟨some 27, none, .po (.bin .lss), [.tm 26, .cn (.n .i64 1)]⟩] [1, 2, 5, 6, 7, 8, 9, 27]) (.cond (.tm 27) (.seq (.reg [⟨some 28, none, .call 28, []⟩, ⟨some 29, none, .mv, [.tm 28]⟩, ⟨some 30, some (29, true), .mv, [.tm 8]⟩, ⟨some 31, some (29, true), .po (.bin .eql), [.tm 30, .cn (.n .i64 0)]⟩, ⟨some 32, none, .pick, [.tm 29, .tm 31, .cn (.b false)]⟩, ⟨some 33, none, .mv, [.tm 32]⟩, ⟨some 34, some (33, true), .mv, [.tm 9]⟩, ⟨some 35, some (33, true), .po (.bin .eql), [.tm 34, .cn (.n .i64 1)]⟩, ⟨some 36, none, .pick, [.tm 33, .tm 35, .cn (.b false)]⟩, ⟨some 37, none, .mv, [.tm 36]⟩, ⟨some 38, some (37, true), .ld true 2 false, [.tm 2]⟩, ⟨some 39, some (37, true), .mv, [.tm 1]⟩, ⟨some 40, some (37, true), .call 32, [.tm 38, .tm 39]⟩, ⟨some 41, some (37, true), .po (.bin .eql), [.tm 40, .cn (.n .i64 0)]⟩, ⟨some 42, none, .pick, [.tm 37, .tm 41, .cn (.b false)]⟩, ⟨some 4, none, .mv, [.tm 42]⟩] [4]) .ret) .skip)) (.seq (.dreg [⟨some 44, none, .ld true 2 false, [.tm 5]⟩, ⟨some 45, none, .mv, [.tm 1]⟩, ⟨some 46, none, .call 34, [.tm 45]⟩, ⟨some 47, none, .call 33, [.tm 44, .tm 46]⟩, ⟨some 43, none, .mv, [.tm 47]⟩, ⟨some 48, none, .po (.ext 0), [.tm 43]⟩, ⟨some 49, none, .po (.ext 1), [.tm 43]⟩, ⟨some 10, none, .alloc [.b false, .sl 0 [] true], []⟩, ⟨some 11, none, .alloc [.b false, .sl 0 [] true], []⟩, ⟨none, none, .st 2, [.tm 10, .tm 48]⟩, ⟨none, none, .st 2, [.tm 11, .tm 49]⟩] [(6, 9)] [1, 2, 6, 7, 8, 9, 11]) (.seq (.dreg [⟨some 50, none, .call 28, []⟩, ⟨some 51, none, .mv, [.tm 50]⟩, ⟨some 52, some (51, true), .mv, [.tm 8]⟩, ⟨some 53, some (51, true), .mv, [.tm 6]⟩, ⟨some 54, some (51, true), .po (.bin .eql), [.tm 52, .tm 53]⟩, ⟨some 55, none, .pick, [.tm 51, .tm 54, .cn (.b false)]⟩, ⟨some 56, none, .mv, [.tm 55]⟩, ⟨some 57, some (56, true), .mv, [.tm 9]⟩, ⟨some 58, some (56, true), .mv, [.tm 7]⟩, ⟨some 59, some (56, true), .po (.bin .eql), [.tm 57, .tm 58]⟩, ⟨some 60, none, .pick, [.tm 56, .tm 59, .cn (.b false)]⟩, ⟨some 61, none, .mv, [.tm 60]⟩, ⟨some 62, some (61, true), .ld true 2 false, [.tm 11]⟩, ⟨some 63, some (61, true), .ld true 2 false, [.tm 2]⟩, ⟨some 64, some (61, true), .mv, [.tm 1]⟩, ⟨some 65, some (61, true), .call 32, [.tm 63, .tm 64]⟩, ⟨some 66, some (61, true), .call 34, [.tm 65]⟩, ⟨some 67, some (61, true), .call 35, [.tm 62, .tm 66]⟩, ⟨some 68, some (61, true), .po (.bin .eql), [.tm 67, .cn (.n .i64 0)]⟩, ⟨some 69, none, .pick, [.tm 61, .tm 68, .cn (.b false)]⟩, ⟨some 4, none, .mv, [.tm 69]⟩] [] [4]) .ret)))))), [.tm 4]⟩
theorem of7 : Fn1.of Try.prog 7 false [[1, 2], [1, 2, 5], [1, 2, 5, 6, 7], [1, 2, 5, 6, 7, 8, 9], [1, 2, 5, 6, 7, 8, 9, 27], [4], [1, 2, 6, 7, 8, 9, 11], [4]] = some F7 := by kernel_rfl
/-- spyglass/spylaw1.NumQuotients -/
def F8 : Fn1 := ⟨84, .seq (.reg [⟨some 4, none, .mv, [.cn (.b false)]⟩] [0, 1]) (.seq (.reg [⟨some 14, none, .mv, [.tm 0]⟩, ⟨some 15, none, .mv, [.tm 1]⟩, ⟨some 16, none, .call 36, [.tm 14, .tm 15]⟩, ⟨some 17, none, .mv, [.tm 0]⟩, ⟨some 18, none, .mv, [.tm 1]⟩, ⟨some 19, none, .call 37, [.tm 17, .tm 18]⟩, ⟨some 20, none, .mv, [.tm 0]⟩, ⟨some 21, none, .mv, [.tm 1]⟩, ⟨some 22, none, .call 38, [.tm 20, .tm 21]⟩, ⟨some 23, none, .mv, [.tm 0]⟩, ⟨some 24, none, .mv, [.tm 1]⟩, ⟨some 25, none, .call 39, [.tm 23, .tm 24]⟩, ⟨some 5, none, .mv, [.tm 16]⟩, ⟨some 6, none, .mv, [.tm 19]⟩, ⟨some 7, none, .mv, [.tm 22]⟩, ⟨some 8, none, .mv, [.tm 25]⟩] [0, 1, 5, 6, 7, 8]) (.seq (.seq (.reg [⟨some 26, none, .mv, [.tm 1]⟩, ⟨some 27, none, .po (.bin .lss), [.tm 26, .cn (.n .i64 1)]⟩] [0, 1, 5, 6, 7, 8, 27]) (.cond (.tm 27) (.seq (.reg [⟨some 28, none, .call 28, []⟩, ⟨some 29, none, .mv, [.tm 28]⟩, ⟨some 30, some (29, true), .mv, [.tm 5]⟩, ⟨some 31, some (29, true), .po (.bin .eql), [.tm 30, .cn (.n .i64 0)]⟩, ⟨some 32, none, .pick, [.tm 29, .tm 31, .cn (.b false)]⟩, ⟨some 33, none, .mv, [.tm 32]⟩, ⟨some 34, some (33, true), .mv, [.tm 6]⟩, ⟨some 35, some (33, true), .po (.bin .eql), [.tm 34, .cn (.n .i64 0)]⟩, ⟨some 36, none, .pick, [.tm 33, .tm 35, .cn (.b false)]⟩, ⟨some 37, none, .mv, [.tm 36]⟩, ⟨some 38, some (37, true), .mv, [.tm 7]⟩, ⟨some 39, some (37, true), .po (.bin .eql), [.tm 38, .cn (.n .i64 0)]⟩, ⟨some 40, none, .pick, [.tm 37, .tm 39, .cn (.b false)]⟩, ⟨some 41, none, .mv, [.tm 40]⟩, ⟨some 42, some (41, true), .mv, [.tm 8]⟩, ⟨some 43, some (41, true), .po (.bin .eql), [.tm 42, .cn (.n .i64 0)]⟩, ⟨some 44, none, .pick, [.tm 41, .tm 43, .cn (.b false)]⟩, ⟨some 4, none, .mv, [.tm 44]⟩] [4]) .ret) .skip)) (.seq (.reg [⟨some 45, none, .mv, [.tm 0]⟩, ⟨some 46, none, .call 34, [.tm 45]⟩, ⟨some 47, none, .mv, [.tm 1]⟩, ⟨some 48, none, .call 34, [.tm 47]⟩, ⟨some 9, none, .alloc [.b false, .sl 0 [] true], []⟩, ⟨some 10, none, .alloc [.b false, .sl 0 [] true], []⟩, ⟨none, none, .st 2, [.tm 9, .tm 46]⟩, ⟨none, none, .st 2, [.tm 10, .tm 48]⟩] [5, 6, 7, 8, 9, 10]) (.seq (.reg [⟨some 50, none, .ld true 2 false, [.tm 9]⟩, ⟨some 51, none, .ld true 2 false, [.tm 10]⟩, ⟨some 52, none, .call 33, [.tm 50, .tm 51]⟩, ⟨some 49, none, .mv, [.tm 52]⟩, ⟨some 53, none, .po (.ext 0), [.tm 49]⟩, ⟨some 54, none, .po (.ext 1), [.tm 49]⟩, ⟨some 11, none, .alloc [.b false, .sl 0 [] true], []⟩, ⟨some 12, none, .alloc [.b false, .sl 0 [] true], []⟩, ⟨none, none, .st 2, [.tm 11, .tm 53]⟩, ⟨none, none, .st 2, [.tm 12, .tm 54]⟩] [5, 6, 7, 8, 9, 10, 11, 12]) (.seq (.reg [⟨some 13, none, .mv, [.cn (.clo (.func 40) [] [])]⟩] [5, 6, 7, 8, 9, 10, 11, 12, 13]) (.seq (.reg [⟨some 55, none, .call 28, []⟩, ⟨some 56, none, .mv, [.tm 55]⟩, ⟨some 57, some (56, true), .mv, [.tm 13]⟩, ⟨some 58, some (56, true), .ld true 2 false, [.tm 11]⟩, ⟨some 59, some (56, true), .mv, [.tm 5]⟩, ⟨some 60, some (56, true), .callD, [.tm 57, .tm 58, .tm 59]⟩, ⟨some 61, none, .pick, [.tm 56, .tm 60, .cn (.b false)]⟩, ⟨some 62, none, .mv, [.tm 61]⟩, ⟨some 63, some (62, true), .mv, [.tm 13]⟩, ⟨some 64, some (62, true), .ld true 2 false, [.tm 9]⟩, ⟨some 65, some (62, true), .ld true 2 false, [.tm 10]⟩, ⟨some 66, some (62, true), .call 41, [.tm 64, .tm 65]⟩, ⟨some 67, some (62, true), .mv, [.tm 6]⟩, ⟨some 68, some (62, true), .callD, [.tm 63, .tm 66, .tm 67]⟩, ⟨some 69, none, .pick, [.tm 62, .tm 68, .cn (.b false)]⟩, ⟨some 70, none, .mv, [.tm 69]⟩, ⟨some 71, some (70, true), .mv, [.tm 13]⟩, ⟨some 72, some (70, true), .ld true 2 false, [.tm 9]⟩, ⟨some 73, some (70, true), .ld true 2 false, [.tm 10]⟩, ⟨some 74, some (70, true), .call 42, [.tm 72, .tm 73]⟩, ⟨some 75, some (70, true), .mv, [.tm 7]⟩, ⟨some 76, some (70, true), .callD, [.tm 71, .tm 74, .tm 75]⟩, ⟨some 77, none, .pick, [.tm 70, .tm 76, .cn (.b false)]⟩, ⟨some 78, none, .mv, [.tm 77]⟩, ⟨some 79, some (78, true), .mv, [.tm 13]⟩, ⟨some 80, some (78, true), .ld true 2 false, [.tm 12]⟩, ⟨some 81, some (78, true), .mv, [.tm 8]⟩, ⟨some 82, some (78, true), .callD, [.tm 79, .tm 80, .tm 81]⟩, ⟨some 83, none, .pick, [.tm 78, .tm 82, .cn (.b false)]⟩, ⟨some 4, none, .mv, [.tm 83]⟩] [4]) .ret)))))), [.tm 4]⟩
theorem of8 : Fn1.of Try.prog 8 false [[0, 1], [0, 1, 5, 6, 7, 8], [0, 1, 5, 6, 7, 8, 27], [4], [5, 6, 7, 8, 9, 10], [5, 6, 7, 8, 9, 10, 11, 12], [5, 6, 7, 8, 9, 10, 11, 12, 13], [4]] = some F8 := by kernel_rfl
/-- spyglass/spylaw1.NumSums -/
def F9 : Fn1 := ⟨64, .seq (.reg [⟨some 4, none, .mv, [.cn (.b false)]⟩] [0, 1]) (.seq (.reg [⟨some 5, none, .mv, [.cn (.clo (.func 43) [] [])]⟩] [0, 1, 5]) (.seq (.reg [⟨some 13, none, .mv, [.tm 0]⟩, ⟨some 14, none, .mv, [.tm 1]⟩, ⟨some 15, none, .call 45, [.tm 13, .tm 14]⟩, ⟨some 12, none, .mv, [.tm 15]⟩, ⟨some 16, none, .po (.ext 0), [.tm 12]⟩, ⟨some 17, none, .po (.ext 1), [.tm 12]⟩, ⟨some 6, none, .mv, [.tm 16]⟩, ⟨some 7, none, .mv, [.tm 17]⟩] [0, 1, 5, 6, 7]) (.seq (.reg [⟨some 19, none, .mv, [.tm 0]⟩, ⟨some 20, none, .mv, [.tm 1]⟩, ⟨some 21, none, .call 46, [.tm 19, .tm 20]⟩, ⟨some 18, none, .mv, [.tm 21]⟩, ⟨some 22, none, .po (.ext 0), [.tm 18]⟩, ⟨some 23, none, .po (.ext 1), [.tm 18]⟩, ⟨some 8, none, .mv, [.tm 22]⟩, ⟨some 9, none, .mv, [.tm 23]⟩] [0, 1, 5, 6, 7, 8, 9]) (.seq (.reg [⟨some 25, none, .mv, [.tm 0]⟩, ⟨some 26, none, .mv, [.tm 1]⟩, ⟨some 27, none, .call 47, [.tm 25, .tm 26]⟩, ⟨some 24, none, .mv, [.tm 27]⟩, ⟨some 28, none, .po (.ext 0), [.tm 24]⟩, ⟨some 29, none, .po (.ext 1), [.tm 24]⟩, ⟨some 10, none, .mv, [.tm 28]⟩, ⟨some 11, none, .mv, [.tm 29]⟩] [0, 1, 5, 6, 7, 8, 9, 10, 11]) (.seq (.reg [⟨some 30, none, .call 28, []⟩, ⟨some 31, none, .mv, [.tm 30]⟩, ⟨some 32, some (31, true), .mv, [.tm 5]⟩, ⟨some 33, some (31, true), .mv, [.tm 0]⟩, ⟨some 34, some (31, true), .call 34, [.tm 33]⟩, ⟨some 35, some (31, true), .mv, [.tm 1]⟩, ⟨some 36, some (31, true), .call 34, [.tm 35]⟩, ⟨some 37, some (31, true), .call 48, [.tm 34, .tm 36]⟩, ⟨some 38, some (31, true), .mv, [.tm 6]⟩, ⟨some 39, some (31, true), .mv, [.tm 7]⟩, ⟨some 40, some (31, true), .callD, [.tm 32, .tm 37, .tm 38, .tm 39]⟩, ⟨some 41, none, .pick, [.tm 31, .tm 40, .cn (.b false)]⟩, ⟨some 42, none, .mv, [.tm 41]⟩, ⟨some 43, some (42, true), .mv, [.tm 5]⟩, ⟨some 44, some (42, true), .mv, [.tm 0]⟩, ⟨some 45, some (42, true), .call 34, [.tm 44]⟩, ⟨some 46, some (42, true), .mv, [.tm 1]⟩, ⟨some 47, some (42, true), .call 34, [.tm 46]⟩, ⟨some 48, some (42, true), .call 49, [.tm 45, .tm 47]⟩, ⟨some 49, some (42, true), .mv, [.tm 8]⟩, ⟨some 50, some (42, true), .mv, [.tm 9]⟩, ⟨some 51, some (42, true), .callD, [.tm 43, .tm 48, .tm 49, .tm 50]⟩, ⟨some 52, none, .pick, [.tm 42, .tm 51, .cn (.b false)]⟩, ⟨some 53, none, .mv, [.tm 52]⟩, ⟨some 54, some (53, true), .mv, [.tm 5]⟩, ⟨some 55, some (53, true), .mv, [.tm 0]⟩, ⟨some 56, some (53, true), .call 34, [.tm 55]⟩, ⟨some 57, some (53, true), .mv, [.tm 1]⟩, ⟨some 58, some (53, true), .call 34, [.tm 57]⟩, ⟨some 59, some (53, true), .call 50, [.tm 56, .tm 58]⟩, ⟨some 60, some (53, true), .mv, [.tm 10]⟩, ⟨some 61, some (53, true), .mv, [.tm 11]⟩, ⟨some 62, some (53, true), .callD, [.tm 54, .tm 59, .tm 60, .tm 61]⟩, ⟨some 63, none, .pick, [.tm 53, .tm 62, .cn (.b false)]⟩, ⟨some 4, none, .mv, [.tm 63]⟩] [4]) .ret))))), [.tm 4]⟩
theorem of9 : Fn1.of Try.prog 9 false [[0, 1], [0, 1, 5], [0, 1, 5, 6, 7], [0, 1, 5, 6, 7, 8, 9], [0, 1, 5, 6, 7, 8, 9, 10, 11], [4]] = some F9 := by kernel_rfl
/-- spyglass/spylaw1.NumWides -/
def F12 : Fn1 := ⟨57, .seq (.reg [⟨some 6, none, .box, [.tm 2]⟩, ⟨some 7, none, .box, [.tm 3]⟩, ⟨some 8, none, .mv, [.cn (.b false)]⟩] [0, 1, 6, 7]) (.seq (.reg [⟨some 9, none, .mv, [.cn (.clo (.func 58) [] [])]⟩] [0, 1, 6, 7, 9]) (.seq (.dreg [⟨some 12, none, .ld true 2 false, [.tm 6]⟩, ⟨some 13, none, .call 29, [.tm 12]⟩, ⟨some 14, none, .ld true 2 false, [.tm 7]⟩, ⟨some 15, none, .call 29, [.tm 14]⟩, ⟨some 10, none, .alloc [.b false, .sl 0 [] true], []⟩, ⟨some 11, none, .alloc [.b false, .sl 0 [] true], []⟩, ⟨none, none, .st 2, [.tm 10, .tm 13]⟩, ⟨none, none, .st 2, [.tm 11, .tm 15]⟩] [] [0, 1, 6, 7, 9, 10, 11]) (.seq (.dreg [⟨some 16, none, .call 28, []⟩, ⟨some 17, none, .mv, [.tm 16]⟩, ⟨some 18, some (17, true), .mv, [.tm 0]⟩, ⟨some 19, some (17, true), .mv, [.tm 1]⟩, ⟨some 20, some (17, true), .call 61, [.tm 18, .tm 19]⟩, ⟨some 21, some (17, true), .call 29, [.tm 20]⟩, ⟨some 22, some (17, true), .mv, [.tm 0]⟩, ⟨some 23, some (17, true), .call 34, [.tm 22]⟩, ⟨some 24, some (17, true), .mv, [.tm 1]⟩, ⟨some 25, some (17, true), .call 34, [.tm 24]⟩, ⟨some 26, some (17, true), .call 50, [.tm 23, .tm 25]⟩, ⟨some 27, some (17, true), .call 35, [.tm 21, .tm 26]⟩, ⟨some 28, some (17, true), .po (.bin .eql), [.tm 27, .cn (.n .i64 0)]⟩, ⟨some 29, none, .pick, [.tm 17, .tm 28, .cn (.b false)]⟩, ⟨some 30, none, .mv, [.tm 29]⟩, ⟨some 31, some (30, true), .mv, [.tm 9]⟩, ⟨some 32, some (30, true), .ld true 2 false, [.tm 6]⟩, ⟨some 33, some (30, true), .call 62, [.tm 32]⟩, ⟨some 34, some (30, true), .ld true 2 false, [.tm 10]⟩, ⟨some 35, some (30, true), .call 63, [.tm 34]⟩, ⟨some 36, some (30, true), .callD, [.tm 31, .tm 33, .tm 35]⟩, ⟨some 37, none, .pick, [.tm 30, .tm 36, .cn (.b false)]⟩, ⟨some 38, none, .mv, [.tm 37]⟩, ⟨some 39, some (38, true), .mv, [.tm 9]⟩, ⟨some 40, some (38, true), .ld true 2 false, [.tm 6]⟩, ⟨some 41, some (38, true), .ld true 2 false, [.tm 7]⟩, ⟨some 42, some (38, true), .call 64, [.tm 40, .tm 41]⟩, ⟨some 43, some (38, true), .ld true 2 false, [.tm 10]⟩, ⟨some 44, some (38, true), .ld true 2 false, [.tm 11]⟩, ⟨some 45, some (38, true), .call 48, [.tm 43, .tm 44]⟩, ⟨some 46, some (38, true), .callD, [.tm 39, .tm 42, .tm 45]⟩, ⟨some 47, none, .pick, [.tm 38, .tm 46, .cn (.b false)]⟩, ⟨some 48, none, .mv, [.tm 47]⟩, ⟨some 49, some (48, true), .ld true 2 false, [.tm 6]⟩, ⟨some 50, some (48, true), .ld true 2 false, [.tm 7]⟩, ⟨some 51, some (48, true), .call 65, [.tm 49, .tm 50]⟩, ⟨some 52, some (48, true), .ld true 2 false, [.tm 10]⟩, ⟨some 53, some (48, true), .ld true 2 false, [.tm 11]⟩, ⟨some 54, some (48, true), .call 35, [.tm 52, .tm 53]⟩, ⟨some 55, some (48, true), .po (.bin .eql), [.tm 51, .tm 54]⟩, ⟨some 56, none, .pick, [.tm 48, .tm 55, .cn (.b false)]⟩, ⟨some 8, none, .mv, [.tm 56]⟩] [] [8]) .ret))), [.tm 8]⟩
theorem of12 : Fn1.of Try.prog 12 false [[0, 1, 6, 7], [0, 1, 6, 7, 9], [0, 1, 6, 7, 9, 10, 11], [8]] = some F12 := by kernel_rfl

theorem fits_in {x : Int} (h : IntKind.i64.min ≤ x ∧ x ≤ IntKind.i64.max) : fits x := h
theorem u64_in {x : Int} (h : IntKind.u64.min ≤ x ∧ x ≤ IntKind.u64.max) : 0 ≤ x ∧ x ≤ 18446744073709551615 := h
theorem fits.zb {x : Int} (h : fits x) : zb 4 x := zb_64 (by unfold fits at h; omega)
theorem WideOf_ok (w : Int) (h : fits2 w) : Pure Try.prog 29 [wideV w] (zV w) := by
  refine pure_of_wp of29 (Nat.le_of_ble_eq_true rfl) ?_
  unfold fits2 at h
  have z1 : zb 4 (w / 18446744073709551616) := zb_64 (by omega)
  have z2 : zb 4 ((2 : Int) ^ (64 : Int).toNat) := zb_64 (by decide)
  have z3 : zb 4 (w % 18446744073709551616) := zb_64 (by omega)
  refine CallK.mk _ (I_ok _ (by omega)) rfl ?_
  refine CallK.mk _ (Two_ok 64 (by decide)) rfl ?_
  refine CallK.mk _ (Times_ok _ _ (z1.mono (by decide)) (z2.mono (by decide))) rfl ?_
  refine CallK.mk _ (U_ok _ (by omega)) rfl ?_
  refine CallK.mk _ (Plus_ok _ _ ((z1.mul z2).mono (by decide)) (z3.mono (by decide))) rfl ?_
  ((repeat' first | refine DecK.tt ?_ | refine DecK.ff ?_ | refine DecK.beq (fun _ => ?_) (fun _ => ?_) | refine DecK.bne (fun _ => ?_) (fun _ => ?_) | refine DecK.dec (fun _ => ?_) (fun _ => ?_) | refine OptK.mk _ rfl ?_ | refine endV (by rfl) ?_) <;> (try with_reducible rfl))
  refine congrArg zV ?_
  show w / 18446744073709551616 * 18446744073709551616 + w % 18446744073709551616 = w
  omega
theorem isQ_ok (n : Int) (h : fits n) : Pure Try.prog 40 [zV n, .n .i64 n] (.b true) := by
  refine pure_of_wp of40 (Nat.le_of_ble_eq_true rfl) ?_
  refine CallK.mk _ (I_ok n h) rfl ?_
  refine CallK.mk _ (Cmp_ok n n (h.zb.mono (by decide)) (h.zb.mono (by decide))) rfl ?_
  ((repeat' first | refine DecK.tt ?_ | refine DecK.ff ?_ | refine DecK.beq (fun _ => ?_) (fun _ => ?_) | refine DecK.bne (fun _ => ?_) (fun _ => ?_) | refine DecK.dec (fun _ => ?_) (fun _ => ?_) | refine OptK.mk _ rfl ?_ | refine endV (by rfl) ?_) <;> (try with_reducible rfl))
  rw [icmp_eq rfl]; rfl
theorem isS_ok (n : Int) (h : zok n) : Pure Try.prog 43 [zV n, .n .i64 (small n), .b (decide (fits n))] (.b true) := by
  refine pure_of_wp of43 (Nat.le_of_ble_eq_true rfl) ?_
  refine CallK.mk _ (Fits_ok n h) rfl ?_
  refine DecK.yes (by simp) ?_
  ((repeat' first | refine DecK.tt ?_ | refine DecK.ff ?_ | refine DecK.beq (fun _ => ?_) (fun _ => ?_) | refine DecK.bne (fun _ => ?_) (fun _ => ?_) | refine DecK.dec (fun _ => ?_) (fun _ => ?_) | refine OptK.mk _ rfl ?_ | refine endV (by rfl) ?_) <;> (try with_reducible rfl))
  simp
theorem same_ok (w z : Int) (hw : fits2 w) (hz : zb 1000 z) (h : (w - z) % 340282366920938463463374607431768211456 = 0) : Pure Try.prog 58 [wideV w, zV z] (.b true) := by
  refine pure_of_wp of58 (Nat.le_of_ble_eq_true rfl) ?_
  have zw : zb 8 w := by
    unfold zb
    unfold fits2 at hw
    have : (1000000 : Int) ^ 8 = 1000000000000000000000000000000000000000000000000 := by decide
    omega
  have z2 : zb 8 ((2 : Int) ^ (128 : Int).toNat) := by unfold zb; decide
  have z3 : zb 1001 (w - z) := zw.sub hz (by decide) (by decide)
  refine CallK.mk _ (WideOf_ok w hw) rfl ?_
  refine CallK.mk _ (Less_ok _ _ (zw.mono (by decide)) (hz.mono (by decide))) rfl ?_
  refine CallK.mk _ (Two_ok 128 (by decide)) rfl ?_
  refine CallK.mk _ (Split_ok _ _ (z3.mono (by decide)) (z2.mono (by decide)) (by decide)) rfl ?_
  have e : (w - z) % (2 : Int) ^ (128 : Int).toNat = 0 := h
  repeat' first | refine DecK.tt ?_ | refine DecK.ff ?_ | refine DecK.beq (fun _ => ?_) (fun _ => ?_) | refine DecK.bne (fun _ => ?_) (fun _ => ?_) | refine DecK.dec (fun _ => ?_) (fun _ => ?_) | refine OptK.mk _ rfl ?_ | refine endV (by rfl) ?_ | (refine CallK.mk _ (Sign_ok _) rfl ?_)
  rw [e]; rfl
theorem names_law (a : Ty.T .nil) (h : Ty.inn .nil a) : Pure Try.prog 6 (Ty.vals .nil a) (.b true) := by
  refine pure_of_wp of6 (Nat.le_of_ble_eq_true rfl) ?_
  iterate 20
    refine loop_unroll ?_
    repeat' first | (refine OptK.mk _ rfl ?_) | (refine DecK.yes rfl ?_) | (refine DecK.no rfl ?_)
  refine CallK.mk _ nums_ok rfl ?_
  ((repeat' first | refine DecK.tt ?_ | refine DecK.ff ?_ | refine DecK.beq (fun _ => ?_) (fun _ => ?_) | refine DecK.bne (fun _ => ?_) (fun _ => ?_) | refine DecK.dec (fun _ => ?_) (fun _ => ?_) | refine OptK.mk _ rfl ?_ | refine endV (by rfl) ?_) <;> (try with_reducible rfl))
theorem numSums_law (x : Ty.T (.pair (.n .i64) (.pair (.n .i64) .nil))) (h : Ty.inn (.pair (.n .i64) (.pair (.n .i64) .nil)) x) : Pure Try.prog 9 (Ty.vals (.pair (.n .i64) (.pair (.n .i64) .nil)) x) (.b true) := by
  obtain ⟨a, b, ⟨⟩⟩ := x
  obtain ⟨ha, hb, -⟩ := h
  replace ha : fits a := ha
  replace hb : fits b := hb
  have za := ha.zb
  have zb' := hb.zb
  have s1 : zok (a + b) := (za.add zb' (j := 5) (by decide) (by decide)).mono (by decide)
  have s2 : zok (a - b) := (za.sub zb' (j := 5) (by decide) (by decide)).mono (by decide)
  have s3 : zok (a * b) := (za.mul zb').mono (by decide)
  refine pure_of_wp of9 (Nat.le_of_ble_eq_true rfl) ?_
  refine CallK.mk _ (numAdd_ok a b ha hb) rfl ?_
  refine CallK.mk _ (numSub_ok a b ha hb) rfl ?_
  refine CallK.mk _ (numMul_ok a b ha hb) rfl ?_
  refine CallK.mk _ nums_ok rfl ?_
  refine DecK.tt ?_
  refine CallK.mk _ (I_ok a ha) rfl ?_
  refine CallK.mk _ (I_ok b hb) rfl ?_
  refine CallK.mk _ (Plus_ok a b (za.mono (by decide)) (zb'.mono (by decide))) rfl ?_
  refine CallK.mk _ (isS_ok _ s1) rfl ?_
  refine DecK.tt ?_
  refine CallK.mk _ (I_ok a ha) rfl ?_
  refine CallK.mk _ (I_ok b hb) rfl ?_
  refine CallK.mk _ (Less_ok a b (za.mono (by decide)) (zb'.mono (by decide))) rfl ?_
  refine CallK.mk _ (isS_ok _ s2) rfl ?_
  refine DecK.tt ?_
  refine CallK.mk _ (I_ok a ha) rfl ?_
  refine CallK.mk _ (I_ok b hb) rfl ?_
  refine CallK.mk _ (Times_ok a b (za.mono (by decide)) (zb'.mono (by decide))) rfl ?_
  refine CallK.mk _ (isS_ok _ s3) rfl ?_
  ((repeat' first | refine DecK.tt ?_ | refine DecK.ff ?_ | refine DecK.beq (fun _ => ?_) (fun _ => ?_) | refine DecK.bne (fun _ => ?_) (fun _ => ?_) | refine DecK.dec (fun _ => ?_) (fun _ => ?_) | refine OptK.mk _ rfl ?_ | refine endV (by rfl) ?_) <;> (try with_reducible rfl))
theorem quotients_pure (a b : Int) (ha : fits a) (hb : fits b) : Pure Try.prog 8 [.n .i64 a, .n .i64 b] (.b true) := by
  have za := ha.zb
  have zb' := hb.zb
  have t1 := floorDiv_ok a b ha hb
  have t2 := ceilDiv_ok a b ha hb
  have t3 := roundDiv_ok a b ha hb
  have t4 := mod_ok a b ha hb
  refine pure_of_wp of8 (Nat.le_of_ble_eq_true rfl) ?_
  by_cases h1 : b < 1
  · rw [if_pos h1] at t1 t2 t3 t4
    refine CallK.mk _ t1 rfl ?_
    refine CallK.mk _ t2 rfl ?_
    refine CallK.mk _ t3 rfl ?_
    refine CallK.mk _ t4 rfl ?_
    refine DecK.yes (decide_eq_true h1) ?_
    refine CallK.mk _ nums_ok rfl ?_
    repeat' first | (refine DecK.yes rfl ?_) | refine DecK.tt ?_ | refine DecK.ff ?_ | refine DecK.beq (fun _ => ?_) (fun _ => ?_) | refine DecK.bne (fun _ => ?_) (fun _ => ?_) | refine DecK.dec (fun _ => ?_) (fun _ => ?_) | refine OptK.mk _ rfl ?_ | refine endV (by rfl) ?_
    rfl
  · rw [if_neg h1] at t1 t2 t3 t4
    refine CallK.mk _ t1 rfl ?_
    refine CallK.mk _ t2 rfl ?_
    refine CallK.mk _ t3 rfl ?_
    refine CallK.mk _ t4 rfl ?_
    refine DecK.no (decide_eq_false h1) ?_
    have hfits : fits (a / b) ∧ fits (cdiv a b) ∧ fits (rnd a b) ∧ fits (a % b) := by
      obtain ⟨q, r, h1, h2, h3, h4, h5, h6⟩ := quo_all (a := a) (b := b) (by omega)
      unfold fits at *
      omega
    refine CallK.mk _ (I_ok a ha) rfl ?_
    refine CallK.mk _ (I_ok b hb) rfl ?_
    refine OptK.mk _ rfl ?_
    refine OptK.mk _ rfl ?_
    refine CallK.mk _ (Split_ok a b (za.mono (by decide)) (zb'.mono (by decide)) (by omega)) rfl ?_
    refine OptK.mk _ rfl ?_
    refine OptK.mk _ rfl ?_
    refine CallK.mk _ nums_ok rfl ?_
    refine DecK.tt ?_
    refine CallK.mk _ (isQ_ok _ hfits.1) rfl ?_
    refine DecK.tt ?_
    refine CallK.mk _ (Ceil_ok a b (za.mono (by decide)) (zb'.mono (by decide)) (by omega)) rfl ?_
    refine CallK.mk _ (isQ_ok _ hfits.2.1) rfl ?_
    refine DecK.tt ?_
    refine CallK.mk _ (Round_ok a b (za.mono (by decide)) (zb'.mono (by decide)) (by omega)) rfl ?_
    refine CallK.mk _ (isQ_ok _ hfits.2.2.1) rfl ?_
    refine DecK.tt ?_
    refine CallK.mk _ (isQ_ok _ hfits.2.2.2) rfl ?_
    ((repeat' first | refine DecK.tt ?_ | refine DecK.ff ?_ | refine DecK.beq (fun _ => ?_) (fun _ => ?_) | refine DecK.bne (fun _ => ?_) (fun _ => ?_) | refine DecK.dec (fun _ => ?_) (fun _ => ?_) | refine OptK.mk _ rfl ?_ | refine endV (by rfl) ?_) <;> (try with_reducible rfl))
theorem numQuotients_law (x : Ty.T (.pair (.n .i64) (.pair (.n .i64) .nil))) (h : Ty.inn (.pair (.n .i64) (.pair (.n .i64) .nil)) x) : Pure Try.prog 8 (Ty.vals (.pair (.n .i64) (.pair (.n .i64) .nil)) x) (.b true) :=
  quotients_pure x.1 x.2.1 h.1 h.2.1
theorem wide_arg {hi lo : Int} (h : fits hi) (h' : 0 ≤ lo ∧ lo ≤ 18446744073709551615) : fits2 (hi * 18446744073709551616 + lo) ∧ V.agg [.n .i64 hi, .n .u64 lo] = wideV (hi * 18446744073709551616 + lo) := by
  unfold fits at h
  refine ⟨by unfold fits2; omega, wide_end (by omega) (by omega)⟩
theorem fits2.zb {w : Int} (h : fits2 w) : zb 8 w := by
  unfold Sv.zb
  unfold fits2 at h
  have : (1000000 : Int) ^ 8 = 1000000000000000000000000000000000000000000000000 := by decide
  omega
theorem wideQ_pure (w d : Int) (hw : fits2 w) (hd : fits d) : Pure Try.prog 7 [wideV w, .n .i64 d] (.b true) := by
  have zw := hw.zb
  have zd := hd.zb
  have t1 := Quotient_ok w d false (zw.mono (by decide)) hd
  have t2 := wDiv_ok w d hw hd
  have t3 := wMod_ok w d hw hd
  have e1 : (if (false = true) then cdiv w d else w / d) = w / d := rfl
  rw [e1] at t1
  refine pure_of_wp of7 (Nat.le_of_ble_eq_true rfl) ?_
  refine CallK.mk _ (WideOf_ok w hw) rfl ?_
  refine OptK.mk _ rfl ?_
  by_cases h1 : d < 1
  · rw [quoT, if_pos h1] at t2
    rw [if_pos h1] at t1 t3
    refine CallK.mk _ t1 rfl ?_
    refine CallK.mk _ t2 rfl ?_
    refine DecK.yes (decide_eq_true h1) ?_
    refine CallK.mk _ nums_ok rfl ?_
    repeat' first | (refine DecK.yes rfl ?_) | (refine CallK.mk _ t3 rfl ?_) | refine DecK.tt ?_ | refine DecK.ff ?_ | refine DecK.beq (fun _ => ?_) (fun _ => ?_) | refine DecK.bne (fun _ => ?_) (fun _ => ?_) | refine DecK.dec (fun _ => ?_) (fun _ => ?_) | refine OptK.mk _ rfl ?_ | refine endV (by rfl) ?_
    rfl
  · rw [quoT, if_neg h1] at t2
    rw [if_neg h1] at t1 t3
    have hm : fits (w % d) := by
      have e1 := Int.emod_nonneg w (show d ≠ 0 by omega)
      have e2 := Int.emod_lt_of_pos w (show 0 < d by omega)
      unfold fits at *
      omega
    have tS := Split_ok w d (zw.mono (by decide)) (zd.mono (by decide)) (by omega)
    have tI := I_ok d hd
    have tI2 := I_ok _ hm
    have tC := Cmp_ok (w % d) (w % d) (hm.zb.mono (by decide)) (hm.zb.mono (by decide))
    rw [icmp_eq rfl] at tC
    by_cases hf : fits (w / d)
    · rw [if_pos hf] at t1 t2
      refine CallK.mk _ t1 rfl ?_
      refine CallK.mk _ t2 rfl ?_
      refine DecK.no (decide_eq_false h1) ?_
      refine CallK.mk _ tI rfl ?_
      refine CallK.mk _ tS rfl ?_
      repeat' first | (refine DecK.yes (by simp) ?_) | (refine CallK.mk _ nums_ok rfl ?_) | (refine CallK.mk _ t3 rfl ?_) | (refine CallK.mk _ tI2 rfl ?_) | (refine CallK.mk _ tC rfl ?_) | (refine OptK.mk _ rfl ?_) | (refine endV (by rfl) ?_)
      rfl
    · rw [if_neg hf] at t1 t2
      refine CallK.mk _ t1 rfl ?_
      refine CallK.mk _ t2 rfl ?_
      refine DecK.no (decide_eq_false h1) ?_
      refine CallK.mk _ tI rfl ?_
      refine CallK.mk _ tS rfl ?_
      repeat' first | (refine DecK.yes (by simp) ?_) | (refine CallK.mk _ nums_ok rfl ?_) | (refine CallK.mk _ t3 rfl ?_) | (refine CallK.mk _ tI2 rfl ?_) | (refine CallK.mk _ tC rfl ?_) | (refine OptK.mk _ rfl ?_) | (refine endV (by rfl) ?_)
      rfl
theorem numWideQuotients_law (x : Ty.T (.pair (.pair (.n .i64) (.pair (.n .u64) .nil)) (.pair (.n .i64) .nil))) (h : Ty.inn (.pair (.pair (.n .i64) (.pair (.n .u64) .nil)) (.pair (.n .i64) .nil)) x) :
    Pure Try.prog 7 (Ty.vals (.pair (.pair (.n .i64) (.pair (.n .u64) .nil)) (.pair (.n .i64) .nil)) x) (.b true) := by
  obtain ⟨⟨hi, lo, ⟨⟩⟩, d, ⟨⟩⟩ := x
  obtain ⟨⟨h1, h2, -⟩, h3, -⟩ := h
  obtain ⟨k1, k2⟩ := wide_arg (hi := hi) (lo := lo) h1 h2
  have := wideQ_pure _ d k1 h3
  rw [← k2] at this
  exact this
theorem wides_pure (a b w v : Int) (ha : fits a) (hb : fits b) (hw : fits2 w) (hv : fits2 v) : Pure Try.prog 12 [.n .i64 a, .n .i64 b, wideV w, wideV v] (.b true) := by
  have za := ha.zb
  have zb' := hb.zb
  have zw := hw.zb
  have zv := hv.zb
  have h2 := mul_fits2 ha hb
  have zp : zok (a * b) := (za.mul zb').mono (by decide)
  have hm1 : fits2 (m128 (-w)) := by unfold fits2 m128; omega
  have hm2 : fits2 (m128 (w + v)) := by unfold fits2 m128; omega
  have z1 : zb 9 (-w) := zw.neg.mono (by decide)
  have z2 : zb 9 (w + v) := zw.add zv (by decide) (by decide)
  have tC := Cmp_ok (a * b) (a * b) zp zp
  rw [icmp_eq rfl] at tC
  refine pure_of_wp of12 (Nat.le_of_ble_eq_true rfl) ?_
  refine CallK.mk _ (WideOf_ok w hw) rfl ?_
  refine CallK.mk _ (WideOf_ok v hv) rfl ?_
  refine OptK.mk _ rfl ?_
  refine OptK.mk _ rfl ?_
  refine CallK.mk _ nums_ok rfl ?_
  refine DecK.tt ?_
  refine CallK.mk _ (Product_ok a b ha hb) rfl ?_
  refine CallK.mk _ (WideOf_ok (a * b) (by unfold fits2; omega)) rfl ?_
  refine CallK.mk _ (I_ok a ha) rfl ?_
  refine CallK.mk _ (I_ok b hb) rfl ?_
  refine CallK.mk _ (Times_ok a b (za.mono (by decide)) (zb'.mono (by decide))) rfl ?_
  refine CallK.mk _ tC rfl ?_
  refine DecK.yes rfl ?_
  refine CallK.mk _ (wNeg_ok w hw) rfl ?_
  refine CallK.mk _ (Minus_ok w (zw.mono (by decide))) rfl ?_
  refine CallK.mk _ (same_ok _ _ hm1 (z1.mono (by decide)) (by unfold m128; omega)) rfl ?_
  refine DecK.tt ?_
  refine CallK.mk _ (wPlus_ok w v hw hv) rfl ?_
  refine CallK.mk _ (Plus_ok w v (zw.mono (by decide)) (zv.mono (by decide))) rfl ?_
  refine CallK.mk _ (same_ok _ _ hm2 (z2.mono (by decide)) (by unfold m128; omega)) rfl ?_
  refine DecK.tt ?_
  refine CallK.mk _ (wCmp_ok w v) rfl ?_
  refine CallK.mk _ (Cmp_ok w v (zw.mono (by decide)) (zv.mono (by decide))) rfl ?_
  ((repeat' first | refine DecK.tt ?_ | refine DecK.ff ?_ | refine DecK.beq (fun _ => ?_) (fun _ => ?_) | refine DecK.bne (fun _ => ?_) (fun _ => ?_) | refine DecK.dec (fun _ => ?_) (fun _ => ?_) | refine OptK.mk _ rfl ?_ | refine endV (by rfl) ?_) <;> (try with_reducible rfl))
  simp
theorem numWides_law (x : Ty.T (.pair (.n .i64) (.pair (.n .i64) (.pair (.pair (.n .i64) (.pair (.n .u64) .nil)) (.pair (.pair (.n .i64) (.pair (.n .u64) .nil)) .nil))))) (h : Ty.inn (.pair (.n .i64) (.pair (.n .i64) (.pair (.pair (.n .i64) (.pair (.n .u64) .nil)) (.pair (.pair (.n .i64) (.pair (.n .u64) .nil)) .nil)))) x) :
    Pure Try.prog 12 (Ty.vals (.pair (.n .i64) (.pair (.n .i64) (.pair (.pair (.n .i64) (.pair (.n .u64) .nil)) (.pair (.pair (.n .i64) (.pair (.n .u64) .nil)) .nil)))) x) (.b true) := by
  obtain ⟨a, b, ⟨hi, lo, ⟨⟩⟩, ⟨hi', lo', ⟨⟩⟩, ⟨⟩⟩ := x
  obtain ⟨h1, h2, ⟨h3, h4, -⟩, ⟨h5, h6, -⟩, -⟩ := h
  obtain ⟨k1, k2⟩ := wide_arg (hi := hi) (lo := lo) h3 h4
  obtain ⟨k3, k4⟩ := wide_arg (hi := hi') (lo := lo') h5 h6
  have := wides_pure a b _ _ h1 h2 k1 k3
  rw [← k2, ← k4] at this
  exact this
end Go.Proofs.Ytkmlnmbhlkhgpaa.Sv

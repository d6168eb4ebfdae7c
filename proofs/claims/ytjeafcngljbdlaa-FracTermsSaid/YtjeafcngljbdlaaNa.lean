/- Numbers of 64 bits: the program's package num. No condition. -/
import Derived.Test.YtjeafcngljbdlaaZf
import Derived.Test.YtjeafcngljbdlaaWc
namespace Go.Proofs.Ytjeafcngljbdlaa.Sv
open Go Go.RowKit
set_option linter.unusedVariables false
set_option linter.unusedSimpArgs false
set_option maxRecDepth 100000
/-- spyglass/num.size -/
def F75 : Fn1 := ⟨10, .seq (.reg [⟨some 2, none, .mv, [.cn (.n .u64 0)]⟩] [0]) (.seq (.seq (.reg [⟨some 3, none, .mv, [.tm 0]⟩, ⟨some 4, none, .po (.bin .lss), [.tm 3, .cn (.n .i64 0)]⟩] [0, 4]) (.cond (.tm 4) (.seq (.reg [⟨some 5, none, .mv, [.tm 0]⟩, ⟨some 6, none, .po (.toInt .u64), [.tm 5]⟩, ⟨some 7, none, .po (.un .neg), [.tm 6]⟩, ⟨some 2, none, .mv, [.tm 7]⟩] [2]) .ret) .skip)) (.seq (.reg [⟨some 8, none, .mv, [.tm 0]⟩, ⟨some 9, none, .po (.toInt .u64), [.tm 8]⟩, ⟨some 2, none, .mv, [.tm 9]⟩] [2]) .ret)), [.tm 2]⟩
theorem of75 : Fn1.of Try.prog 75 ⟨false, [], false⟩ [[0], [0, 4], [2], [2]] = some F75 := by kernel_rfl
/-- math/bits.Mul64 -/
def F77 : Fn1 := ⟨51, .seq (.reg [⟨some 4, none, .mv, [.cn (.n .u64 0)]⟩, ⟨some 5, none, .mv, [.cn (.n .u64 0)]⟩] [0, 1]) (.seq (.reg [⟨some 14, none, .mv, [.tm 0]⟩, ⟨some 15, none, .po (.bin .and), [.tm 14, .cn (.n .u64 4294967295)]⟩, ⟨some 6, none, .mv, [.tm 15]⟩] [0, 1, 6]) (.seq (.reg [⟨some 16, none, .mv, [.tm 0]⟩, ⟨some 17, none, .po (.bin .shr), [.tm 16, .cn (.n .u64 32)]⟩, ⟨some 7, none, .mv, [.tm 17]⟩] [0, 1, 6, 7]) (.seq (.reg [⟨some 18, none, .mv, [.tm 1]⟩, ⟨some 19, none, .po (.bin .and), [.tm 18, .cn (.n .u64 4294967295)]⟩, ⟨some 8, none, .mv, [.tm 19]⟩] [0, 1, 6, 7, 8]) (.seq (.reg [⟨some 20, none, .mv, [.tm 1]⟩, ⟨some 21, none, .po (.bin .shr), [.tm 20, .cn (.n .u64 32)]⟩, ⟨some 9, none, .mv, [.tm 21]⟩] [0, 1, 6, 7, 8, 9]) (.seq (.reg [⟨some 22, none, .mv, [.tm 6]⟩, ⟨some 23, none, .mv, [.tm 8]⟩, ⟨some 24, none, .po (.bin .mul), [.tm 22, .tm 23]⟩, ⟨some 10, none, .mv, [.tm 24]⟩] [0, 1, 6, 7, 8, 9, 10]) (.seq (.reg [⟨some 25, none, .mv, [.tm 7]⟩, ⟨some 26, none, .mv, [.tm 8]⟩, ⟨some 27, none, .po (.bin .mul), [.tm 25, .tm 26]⟩, ⟨some 28, none, .mv, [.tm 10]⟩, ⟨some 29, none, .po (.bin .shr), [.tm 28, .cn (.n .u64 32)]⟩, ⟨some 30, none, .po (.bin .add), [.tm 27, .tm 29]⟩, ⟨some 11, none, .mv, [.tm 30]⟩] [0, 1, 6, 7, 9, 11]) (.seq (.reg [⟨some 31, none, .mv, [.tm 11]⟩, ⟨some 32, none, .po (.bin .and), [.tm 31, .cn (.n .u64 4294967295)]⟩, ⟨some 12, none, .mv, [.tm 32]⟩] [0, 1, 6, 7, 9, 11, 12]) (.seq (.reg [⟨some 33, none, .mv, [.tm 11]⟩, ⟨some 34, none, .po (.bin .shr), [.tm 33, .cn (.n .u64 32)]⟩, ⟨some 13, none, .mv, [.tm 34]⟩] [0, 1, 6, 7, 9, 12, 13]) (.seq (.reg [⟨some 35, none, .mv, [.tm 12]⟩, ⟨some 36, none, .mv, [.tm 6]⟩, ⟨some 37, none, .mv, [.tm 9]⟩, ⟨some 38, none, .po (.bin .mul), [.tm 36, .tm 37]⟩, ⟨some 39, none, .po (.bin .add), [.tm 35, .tm 38]⟩, ⟨some 12, none, .mv, [.tm 39]⟩] [0, 1, 7, 9, 12, 13]) (.seq (.reg [⟨some 40, none, .mv, [.tm 7]⟩, ⟨some 41, none, .mv, [.tm 9]⟩, ⟨some 42, none, .po (.bin .mul), [.tm 40, .tm 41]⟩, ⟨some 43, none, .mv, [.tm 13]⟩, ⟨some 44, none, .po (.bin .add), [.tm 42, .tm 43]⟩, ⟨some 45, none, .mv, [.tm 12]⟩, ⟨some 46, none, .po (.bin .shr), [.tm 45, .cn (.n .u64 32)]⟩, ⟨some 47, none, .po (.bin .add), [.tm 44, .tm 46]⟩, ⟨some 4, none, .mv, [.tm 47]⟩] [0, 1, 4]) (.seq (.reg [⟨some 48, none, .mv, [.tm 0]⟩, ⟨some 49, none, .mv, [.tm 1]⟩, ⟨some 50, none, .po (.bin .mul), [.tm 48, .tm 49]⟩, ⟨some 5, none, .mv, [.tm 50]⟩] [4, 5]) .ret))))))))))), [.tm 4, .tm 5]⟩
theorem of77 : Fn1.of Try.prog 77 ⟨false, [], false⟩ [[0, 1], [0, 1, 6], [0, 1, 6, 7], [0, 1, 6, 7, 8], [0, 1, 6, 7, 8, 9], [0, 1, 6, 7, 8, 9, 10], [0, 1, 6, 7, 9, 11], [0, 1, 6, 7, 9, 11, 12], [0, 1, 6, 7, 9, 12, 13], [0, 1, 7, 9, 12, 13], [0, 1, 4], [4, 5]] = some F77 := by kernel_rfl
/-- spyglass/num.Product -/
def F64 : Fn1 := ⟨28, .seq (.reg [⟨some 4, none, .alloc [.n .i64 0, .n .u64 0], []⟩] [0, 1, 4]) (.seq (.reg [⟨some 9, none, .mv, [.tm 0]⟩, ⟨some 10, none, .call 75, [.tm 9]⟩, ⟨some 11, none, .mv, [.tm 1]⟩, ⟨some 12, none, .call 75, [.tm 11]⟩, ⟨some 13, none, .call 77, [.tm 10, .tm 12]⟩, ⟨some 8, none, .mv, [.tm 13]⟩, ⟨some 14, none, .po (.ext 0), [.tm 8]⟩, ⟨some 15, none, .po (.ext 1), [.tm 8]⟩, ⟨some 5, none, .mv, [.tm 14]⟩, ⟨some 6, none, .mv, [.tm 15]⟩] [0, 1, 4, 5, 6]) (.seq (.reg [⟨some 16, none, .mv, [.tm 5]⟩, ⟨some 17, none, .po (.toInt .i64), [.tm 16]⟩, ⟨some 18, none, .mv, [.tm 6]⟩, ⟨some 19, none, .po (.build [.n .i64 0, .n .u64 0] [(0, 1), (1, 1)]), [.tm 17, .tm 18]⟩, ⟨some 7, none, .alloc [.n .i64 0, .n .u64 0], []⟩, ⟨none, none, .st 2, [.tm 7, .tm 19]⟩] [0, 1, 4, 7]) (.seq (.seq (.reg [⟨some 20, none, .mv, [.tm 0]⟩, ⟨some 21, none, .po (.bin .lss), [.tm 20, .cn (.n .i64 0)]⟩, ⟨some 22, none, .mv, [.tm 1]⟩, ⟨some 23, none, .po (.bin .lss), [.tm 22, .cn (.n .i64 0)]⟩, ⟨some 24, none, .po (.beq true), [.tm 21, .tm 23]⟩] [4, 7, 24]) (.cond (.tm 24) (.seq (.reg [⟨some 25, none, .ld true 2 false, [.tm 7]⟩, ⟨some 26, none, .call 78, [.tm 25]⟩, ⟨none, none, .st 2, [.tm 4, .tm 26]⟩] [4]) .ret) .skip)) (.seq (.reg [⟨some 27, none, .ld true 2 false, [.tm 7]⟩, ⟨none, none, .st 2, [.tm 4, .tm 27]⟩] [4]) .ret)))), [.cell 4 true 2]⟩
theorem of64 : Fn1.of Try.prog 64 ⟨false, [], false⟩ [[0, 1, 4], [0, 1, 4, 5, 6], [0, 1, 4, 7], [4, 7, 24], [4], [4]] = some F64 := by kernel_rfl
/-- (spyglass/num.Wide).Neg -/
def F78 : Fn1 := ⟨27, .seq (.reg [⟨some 1, none, .box, [.tm 0]⟩, ⟨some 2, none, .alloc [.n .i64 0, .n .u64 0], []⟩] [1, 2]) (.seq (.reg [⟨some 8, none, .fa 1, [.tm 1]⟩, ⟨some 9, none, .ld false 1 false, [.tm 8]⟩, ⟨some 10, none, .po (.un .xor), [.tm 9]⟩, ⟨some 11, none, .call 79, [.tm 10, .cn (.n .u64 1), .cn (.n .u64 0)]⟩, ⟨some 7, none, .mv, [.tm 11]⟩, ⟨some 12, none, .po (.ext 0), [.tm 7]⟩, ⟨some 13, none, .po (.ext 1), [.tm 7]⟩, ⟨some 3, none, .mv, [.tm 12]⟩, ⟨some 4, none, .mv, [.tm 13]⟩] [1, 2, 3, 4]) (.seq (.reg [⟨some 15, none, .fa 0, [.tm 1]⟩, ⟨some 16, none, .ld false 1 false, [.tm 15]⟩, ⟨some 17, none, .po (.toInt .u64), [.tm 16]⟩, ⟨some 18, none, .po (.un .xor), [.tm 17]⟩, ⟨some 19, none, .mv, [.tm 4]⟩, ⟨some 20, none, .call 79, [.tm 18, .cn (.n .u64 0), .tm 19]⟩, ⟨some 14, none, .mv, [.tm 20]⟩, ⟨some 21, none, .po (.ext 0), [.tm 14]⟩, ⟨some 22, none, .po (.ext 1), [.tm 14]⟩, ⟨some 5, none, .mv, [.tm 21]⟩, ⟨some 6, none, .mv, [.tm 22]⟩] [2, 3, 5]) (.seq (.reg [⟨some 23, none, .mv, [.tm 5]⟩, ⟨some 24, none, .po (.toInt .i64), [.tm 23]⟩, ⟨some 25, none, .mv, [.tm 3]⟩, ⟨some 26, none, .po (.build [.n .i64 0, .n .u64 0] [(0, 1), (1, 1)]), [.tm 24, .tm 25]⟩, ⟨none, none, .st 2, [.tm 2, .tm 26]⟩] [2]) .ret))), [.cell 2 true 2]⟩
theorem of78 : Fn1.of Try.prog 78 ⟨false, [], false⟩ [[1, 2], [1, 2, 3, 4], [2, 3, 5], [2]] = some F78 := by kernel_rfl
/-- (spyglass/num.Wide).Plus -/
def F65 : Fn1 := ⟨32, .seq (.reg [⟨some 2, none, .box, [.tm 0]⟩, ⟨some 3, none, .box, [.tm 1]⟩, ⟨some 4, none, .alloc [.n .i64 0, .n .u64 0], []⟩] [2, 3, 4]) (.seq (.reg [⟨some 10, none, .fa 1, [.tm 2]⟩, ⟨some 11, none, .ld false 1 false, [.tm 10]⟩, ⟨some 12, none, .fa 1, [.tm 3]⟩, ⟨some 13, none, .ld false 1 false, [.tm 12]⟩, ⟨some 14, none, .call 79, [.tm 11, .tm 13, .cn (.n .u64 0)]⟩, ⟨some 9, none, .mv, [.tm 14]⟩, ⟨some 15, none, .po (.ext 0), [.tm 9]⟩, ⟨some 16, none, .po (.ext 1), [.tm 9]⟩, ⟨some 5, none, .mv, [.tm 15]⟩, ⟨some 6, none, .mv, [.tm 16]⟩] [2, 3, 4, 5, 6]) (.seq (.reg [⟨some 18, none, .fa 0, [.tm 2]⟩, ⟨some 19, none, .ld false 1 false, [.tm 18]⟩, ⟨some 20, none, .po (.toInt .u64), [.tm 19]⟩, ⟨some 21, none, .fa 0, [.tm 3]⟩, ⟨some 22, none, .ld false 1 false, [.tm 21]⟩, ⟨some 23, none, .po (.toInt .u64), [.tm 22]⟩, ⟨some 24, none, .mv, [.tm 6]⟩, ⟨some 25, none, .call 79, [.tm 20, .tm 23, .tm 24]⟩, ⟨some 17, none, .mv, [.tm 25]⟩, ⟨some 26, none, .po (.ext 0), [.tm 17]⟩, ⟨some 27, none, .po (.ext 1), [.tm 17]⟩, ⟨some 7, none, .mv, [.tm 26]⟩, ⟨some 8, none, .mv, [.tm 27]⟩] [4, 5, 7]) (.seq (.reg [⟨some 28, none, .mv, [.tm 7]⟩, ⟨some 29, none, .po (.toInt .i64), [.tm 28]⟩, ⟨some 30, none, .mv, [.tm 5]⟩, ⟨some 31, none, .po (.build [.n .i64 0, .n .u64 0] [(0, 1), (1, 1)]), [.tm 29, .tm 30]⟩, ⟨none, none, .st 2, [.tm 4, .tm 31]⟩] [4]) .ret))), [.cell 4 true 2]⟩
theorem of65 : Fn1.of Try.prog 65 ⟨false, [], false⟩ [[2, 3, 4], [2, 3, 4, 5, 6], [4, 5, 7], [4]] = some F65 := by kernel_rfl
/-- (spyglass/num.Wide).Cmp -/
def F71 : Fn1 := ⟨17, .seq (.reg [⟨some 2, none, .box, [.tm 0]⟩, ⟨some 3, none, .box, [.tm 1]⟩, ⟨some 4, none, .mv, [.cn (.n .i64 0)]⟩] [2, 3]) (.seq (.dreg [⟨some 5, none, .fa 0, [.tm 2]⟩, ⟨some 6, none, .ld false 1 false, [.tm 5]⟩, ⟨some 7, none, .fa 0, [.tm 3]⟩, ⟨some 8, none, .ld false 1 false, [.tm 7]⟩, ⟨some 9, none, .call 82, [.tm 6, .tm 8]⟩, ⟨some 10, none, .fa 1, [.tm 2]⟩, ⟨some 11, none, .ld false 1 false, [.tm 10]⟩, ⟨some 12, none, .fa 1, [.tm 3]⟩, ⟨some 13, none, .ld false 1 false, [.tm 12]⟩, ⟨some 14, none, .call 83, [.tm 11, .tm 13]⟩, ⟨some 15, none, .po (.bsl 2 [.n .i64 0] [(0, 1), (1, 1)]), [.tm 9, .tm 14]⟩, ⟨some 16, none, .call 81, [.tm 15]⟩, ⟨some 4, none, .mv, [.tm 16]⟩] [] [4]) .ret), [.tm 4]⟩
theorem of71 : Fn1.of Try.prog 71 ⟨false, [], false⟩ [[2, 3], [4]] = some F71 := by kernel_rfl
/-- live: [3, 6, 7, 8] -/
def L81_0 : SC := .seq (.reg [⟨some 9, none, .po (.bin .lss), [.tm 8, .tm 7]⟩] [3, 6, 7, 8, 9]) (.seq (.cond (.tm 9) .skip (.exit 0)) (.seq (.block 1 (.seq (.reg [⟨some 10, none, .ia none 1, [.tm 6, .tm 8]⟩, ⟨some 11, none, .ld false 1 true, [.tm 10]⟩, ⟨some 5, none, .mv, [.tm 11]⟩] [3, 5, 6, 7, 8]) (.seq (.reg [⟨some 12, none, .mv, [.tm 5]⟩, ⟨some 13, none, .mv, [.tm 3]⟩, ⟨some 14, none, .po (.bin .neq), [.tm 12, .tm 13]⟩] [3, 5, 6, 7, 8, 14]) (.cond (.tm 14) (.seq (.reg [⟨some 15, none, .mv, [.tm 5]⟩, ⟨some 2, none, .mv, [.tm 15]⟩] [2]) .ret) .skip)))) (.reg [⟨some 16, none, .po (.bin .add), [.tm 8, .cn (.n .i64 1)]⟩, ⟨some 8, none, .mv, [.tm 16]⟩] [3, 6, 7, 8])))
/-- cmp.Or(int) -/
def F81 : Fn1 := ⟨18, .seq (.reg [⟨some 2, none, .mv, [.cn (.n .i64 0)]⟩] [0]) (.seq (.reg [⟨some 3, none, .mv, [.cn (.n .i64 0)]⟩] [0, 3]) (.seq (.seq (.reg [⟨some 6, none, .mv, [.tm 0]⟩, ⟨some 7, none, .len false, [.tm 6]⟩, ⟨some 8, none, .mv, [.cn (.n .i64 0)]⟩] [3, 6, 7, 8]) (.block 0 (.loop [3, 6, 7, 8] L81_0))) (.seq (.reg [⟨some 17, none, .mv, [.tm 3]⟩, ⟨some 2, none, .mv, [.tm 17]⟩] [2]) .ret))), [.tm 2]⟩
theorem of81 : Fn1.of Try.prog 81 ⟨false, [], false⟩ [[0], [0, 3], [3, 6, 7, 8], [3, 6, 7, 8], [3, 6, 7, 8, 9], [3, 5, 6, 7, 8], [3, 5, 6, 7, 8, 14], [2], [3, 6, 7, 8], [2]] = some F81 := by kernel_rfl
/-- cmp.Compare(int64) -/
def F82 : Fn1 := ⟨20, .seq (.reg [⟨some 4, none, .mv, [.cn (.n .i64 0)]⟩] [0, 1]) (.seq (.reg [⟨some 7, none, .mv, [.tm 0]⟩, ⟨some 8, none, .call 85, [.tm 7]⟩, ⟨some 5, none, .mv, [.tm 8]⟩] [0, 1, 5]) (.seq (.reg [⟨some 9, none, .mv, [.tm 1]⟩, ⟨some 10, none, .call 85, [.tm 9]⟩, ⟨some 6, none, .mv, [.tm 10]⟩] [0, 1, 5, 6]) (.seq (.seq (.reg [⟨some 11, none, .mv, [.tm 5]⟩] [0, 1, 6, 11]) (.cond (.tm 11) (.seq (.seq (.reg [⟨some 12, none, .mv, [.tm 6]⟩] [12]) (.cond (.tm 12) (.seq (.reg [⟨some 4, none, .mv, [.cn (.n .i64 0)]⟩] [4]) .ret) .skip)) (.seq (.reg [⟨some 4, none, .mv, [.cn (.n .i64 (-1))]⟩] [4]) .ret)) .skip)) (.seq (.seq (.reg [⟨some 13, none, .mv, [.tm 6]⟩] [0, 1, 13]) (.cond (.tm 13) (.seq (.reg [⟨some 4, none, .mv, [.cn (.n .i64 1)]⟩] [4]) .ret) .skip)) (.seq (.seq (.reg [⟨some 14, none, .mv, [.tm 0]⟩, ⟨some 15, none, .mv, [.tm 1]⟩, ⟨some 16, none, .po (.bin .lss), [.tm 14, .tm 15]⟩] [0, 1, 16]) (.cond (.tm 16) (.seq (.reg [⟨some 4, none, .mv, [.cn (.n .i64 (-1))]⟩] [4]) .ret) .skip)) (.seq (.seq (.reg [⟨some 17, none, .mv, [.tm 0]⟩, ⟨some 18, none, .mv, [.tm 1]⟩, ⟨some 19, none, .po (.bin .gtr), [.tm 17, .tm 18]⟩] [19]) (.cond (.tm 19) (.seq (.reg [⟨some 4, none, .mv, [.cn (.n .i64 1)]⟩] [4]) .ret) .skip)) (.seq (.reg [⟨some 4, none, .mv, [.cn (.n .i64 0)]⟩] [4]) .ret))))))), [.tm 4]⟩
theorem of82 : Fn1.of Try.prog 82 ⟨false, [], false⟩ [[0, 1], [0, 1, 5], [0, 1, 5, 6], [0, 1, 6, 11], [12], [4], [4], [0, 1, 13], [4], [0, 1, 16], [4], [19], [4], [4]] = some F82 := by kernel_rfl
/-- cmp.Compare(uint64) -/
def F83 : Fn1 := ⟨20, .seq (.reg [⟨some 4, none, .mv, [.cn (.n .i64 0)]⟩] [0, 1]) (.seq (.reg [⟨some 7, none, .mv, [.tm 0]⟩, ⟨some 8, none, .call 86, [.tm 7]⟩, ⟨some 5, none, .mv, [.tm 8]⟩] [0, 1, 5]) (.seq (.reg [⟨some 9, none, .mv, [.tm 1]⟩, ⟨some 10, none, .call 86, [.tm 9]⟩, ⟨some 6, none, .mv, [.tm 10]⟩] [0, 1, 5, 6]) (.seq (.seq (.reg [⟨some 11, none, .mv, [.tm 5]⟩] [0, 1, 6, 11]) (.cond (.tm 11) (.seq (.seq (.reg [⟨some 12, none, .mv, [.tm 6]⟩] [12]) (.cond (.tm 12) (.seq (.reg [⟨some 4, none, .mv, [.cn (.n .i64 0)]⟩] [4]) .ret) .skip)) (.seq (.reg [⟨some 4, none, .mv, [.cn (.n .i64 (-1))]⟩] [4]) .ret)) .skip)) (.seq (.seq (.reg [⟨some 13, none, .mv, [.tm 6]⟩] [0, 1, 13]) (.cond (.tm 13) (.seq (.reg [⟨some 4, none, .mv, [.cn (.n .i64 1)]⟩] [4]) .ret) .skip)) (.seq (.seq (.reg [⟨some 14, none, .mv, [.tm 0]⟩, ⟨some 15, none, .mv, [.tm 1]⟩, ⟨some 16, none, .po (.bin .lss), [.tm 14, .tm 15]⟩] [0, 1, 16]) (.cond (.tm 16) (.seq (.reg [⟨some 4, none, .mv, [.cn (.n .i64 (-1))]⟩] [4]) .ret) .skip)) (.seq (.seq (.reg [⟨some 17, none, .mv, [.tm 0]⟩, ⟨some 18, none, .mv, [.tm 1]⟩, ⟨some 19, none, .po (.bin .gtr), [.tm 17, .tm 18]⟩] [19]) (.cond (.tm 19) (.seq (.reg [⟨some 4, none, .mv, [.cn (.n .i64 1)]⟩] [4]) .ret) .skip)) (.seq (.reg [⟨some 4, none, .mv, [.cn (.n .i64 0)]⟩] [4]) .ret))))))), [.tm 4]⟩
theorem of83 : Fn1.of Try.prog 83 ⟨false, [], false⟩ [[0, 1], [0, 1, 5], [0, 1, 5, 6], [0, 1, 6, 11], [12], [4], [4], [0, 1, 13], [4], [0, 1, 16], [4], [19], [4], [4]] = some F83 := by kernel_rfl
/-- cmp.isNaN(int64) -/
def F85 : Fn1 := ⟨6, .seq (.reg [⟨some 2, none, .mv, [.cn (.b false)]⟩] [0]) (.seq (.reg [⟨some 3, none, .mv, [.tm 0]⟩, ⟨some 4, none, .mv, [.tm 0]⟩, ⟨some 5, none, .po (.bin .neq), [.tm 3, .tm 4]⟩, ⟨some 2, none, .mv, [.tm 5]⟩] [2]) .ret), [.tm 2]⟩
theorem of85 : Fn1.of Try.prog 85 ⟨false, [], false⟩ [[0], [2]] = some F85 := by kernel_rfl
/-- cmp.isNaN(uint64) -/
def F86 : Fn1 := ⟨6, .seq (.reg [⟨some 2, none, .mv, [.cn (.b false)]⟩] [0]) (.seq (.reg [⟨some 3, none, .mv, [.tm 0]⟩, ⟨some 4, none, .mv, [.tm 0]⟩, ⟨some 5, none, .po (.bin .neq), [.tm 3, .tm 4]⟩, ⟨some 2, none, .mv, [.tm 5]⟩] [2]) .ret), [.tm 2]⟩
theorem of86 : Fn1.of Try.prog 86 ⟨false, [], false⟩ [[0], [2]] = some F86 := by kernel_rfl
/-- spyglass/num.Mul -/
def F68 : Fn1 := ⟨20, .seq (.reg [⟨some 4, none, .mv, [.cn (.n .i64 0)]⟩, ⟨some 5, none, .mv, [.cn (.b false)]⟩] [0, 1]) (.seq (.reg [⟨some 7, none, .mv, [.tm 0]⟩, ⟨some 8, none, .mv, [.tm 1]⟩, ⟨some 9, none, .call 64, [.tm 7, .tm 8]⟩, ⟨some 6, none, .alloc [.n .i64 0, .n .u64 0], []⟩, ⟨none, none, .st 2, [.tm 6, .tm 9]⟩] [6]) (.seq (.seq (.reg [⟨some 10, none, .fa 0, [.tm 6]⟩, ⟨some 11, none, .ld false 1 false, [.tm 10]⟩, ⟨some 12, none, .fa 1, [.tm 6]⟩, ⟨some 13, none, .ld false 1 false, [.tm 12]⟩, ⟨some 14, none, .po (.toInt .i64), [.tm 13]⟩, ⟨some 15, none, .po (.bin .shr), [.tm 14, .cn (.n .u64 63)]⟩, ⟨some 16, none, .po (.bin .neq), [.tm 11, .tm 15]⟩] [6, 16]) (.cond (.tm 16) (.seq (.reg [⟨some 4, none, .mv, [.cn (.n .i64 0)]⟩, ⟨some 5, none, .mv, [.cn (.b false)]⟩] [4, 5]) .ret) .skip)) (.seq (.reg [⟨some 17, none, .fa 1, [.tm 6]⟩, ⟨some 18, none, .ld false 1 false, [.tm 17]⟩, ⟨some 19, none, .po (.toInt .i64), [.tm 18]⟩, ⟨some 4, none, .mv, [.tm 19]⟩, ⟨some 5, none, .mv, [.cn (.b true)]⟩] [4, 5]) .ret))), [.tm 4, .tm 5]⟩
theorem of68 : Fn1.of Try.prog 68 ⟨false, [], false⟩ [[0, 1], [6], [6, 16], [4, 5], [4, 5]] = some F68 := by kernel_rfl
theorem add64_ok (x y c : Int) (hx : 0 ≤ x) (hy : 0 ≤ y) (hc : 0 ≤ c ∧ c ≤ 1) : Pure Try.prog 79 [.n .u64 x, .n .u64 y, .n .u64 c] (.tup [.n .u64 ((x + y + c) % 18446744073709551616), .n .u64 ((x + y + c) / 18446744073709551616)]) :=
  add64_entry hx hy hc.1 hc.2 Try.func79 (by kernel_rfl) (by kernel_rfl) (by kernel_rfl) (by kernel_rfl)
theorem size_ok (a : Int) (h : fits a) : Pure Try.prog 75 [.n .i64 a] (.n .u64 a.natAbs) := by
  refine pure_of_wp of75 (Nat.le_of_ble_eq_true rfl) ?_
  unfold fits at h
  ((repeat' first | refine DecK.tt ?_ | refine DecK.ff ?_ | refine DecK.beq (fun _ => ?_) (fun _ => ?_) | refine DecK.bne (fun _ => ?_) (fun _ => ?_) | refine DecK.dec (fun _ => ?_) (fun _ => ?_) | refine OptK.mk _ rfl ?_ | refine endV (by rfl) ?_) <;> (try with_reducible rfl))
  all_goals simp only [V.tup.injEq, V.agg.injEq, V.n.injEq, V.b.injEq, V.s.injEq, List.cons.injEq, true_and, and_true]
  all_goals simp only [wmu64]
  all_goals omega
/-- Shifts and masks as quotients and rests. -/
theorem and32 {x : Int} (h : 0 ≤ x ∧ x ≤ 18446744073709551615) : IntKind.u64.wrap ((BitVec.ofInt IntKind.u64.bits x &&& BitVec.ofInt IntKind.u64.bits 4294967295).toNat : Nat) = x % 4294967296 := by
  obtain ⟨n, rfl⟩ : ∃ n : Nat, x = n := ⟨x.toNat, by omega⟩
  have e : (BitVec.ofInt IntKind.u64.bits (n : Int) &&& BitVec.ofInt IntKind.u64.bits 4294967295).toNat = n % 4294967296 := by
    show (BitVec.ofInt 64 (n : Int) &&& BitVec.ofInt 64 4294967295).toNat = _
    rw [BitVec.toNat_and, BitVec.ofInt_natCast, BitVec.toNat_ofNat, Nat.mod_eq_of_lt (by omega)]
    show n &&& 4294967295 = _
    exact Nat.and_two_pow_sub_one_eq_mod n 32
  rw [e, wmu64]
  omega
theorem mul_lt32 {a b : Int} (ha : 0 ≤ a ∧ a ≤ 4294967295) (hb : 0 ≤ b ∧ b ≤ 4294967295) : 0 ≤ a * b ∧ a * b ≤ 18446744065119617025 :=
  ⟨Int.mul_nonneg ha.1 hb.1, Int.mul_le_mul ha.2 hb.2 hb.1 (by omega)⟩
theorem Mul64_ok (x y : Int) (hx : 0 ≤ x ∧ x ≤ 18446744073709551615) (hy : 0 ≤ y ∧ y ≤ 18446744073709551615) :
    Pure Try.prog 77 [.n .u64 x, .n .u64 y] (.tup [.n .u64 (x * y / 18446744073709551616), .n .u64 (x * y % 18446744073709551616)]) := by
  refine pure_of_wp of77 (Nat.le_of_ble_eq_true rfl) ?_
  ((repeat' first | refine DecK.tt ?_ | refine DecK.ff ?_ | refine DecK.beq (fun _ => ?_) (fun _ => ?_) | refine DecK.bne (fun _ => ?_) (fun _ => ?_) | refine DecK.dec (fun _ => ?_) (fun _ => ?_) | refine OptK.mk _ rfl ?_ | refine endV (by rfl) ?_) <;> (try with_reducible rfl))
  have sh : ∀ z : Int, z.fdiv (2 ^ min (Int.toNat 32) IntKind.u64.bits) = z / 4294967296 := fun z => Int.fdiv_eq_ediv_of_nonneg z (by decide)
  simp only [sh, and32 hx, and32 hy]
  have bA : 0 ≤ x / 4294967296 ∧ x / 4294967296 ≤ 4294967295 := by omega
  have bB : 0 ≤ x % 4294967296 ∧ x % 4294967296 ≤ 4294967295 := by omega
  have bC : 0 ≤ y / 4294967296 ∧ y / 4294967296 ≤ 4294967295 := by omega
  have bD : 0 ≤ y % 4294967296 ∧ y % 4294967296 ≤ 4294967295 := by omega
  have ex : x = x / 4294967296 * 4294967296 + x % 4294967296 := by omega
  have ey : y = y / 4294967296 * 4294967296 + y % 4294967296 := by omega
  generalize x / 4294967296 = A at *
  generalize x % 4294967296 = B at *
  generalize y / 4294967296 = C at *
  generalize y % 4294967296 = D at *
  have exy : x * y = A * C * 18446744073709551616 + (A * D + B * C) * 4294967296 + B * D := by rw [ex, ey]; grind
  have b1 := mul_lt32 bA bC
  have b2 := mul_lt32 bA bD
  have b3 := mul_lt32 bB bC
  have b4 := mul_lt32 bB bD
  rw [exy]
  generalize A * C = p at *
  generalize A * D = q at *
  generalize B * C = r at *
  generalize B * D = s at *
  have e1 : IntKind.u64.wrap (IntKind.u64.wrap q + IntKind.u64.wrap s / 4294967296) = q + s / 4294967296 := by simp (discharger := omega) only [w64, wu64, wu8, w32, wu32, tdivC, tmodC]
  have e2 := and32 (x := q + s / 4294967296) (by omega)
  simp only [e1, e2]
  simp only [V.tup.injEq, V.agg.injEq, V.n.injEq, V.b.injEq, V.s.injEq, List.cons.injEq, true_and, and_true]
  refine ⟨?_, ?_⟩
  · simp (discharger := omega) only [w64, wu64, wu8, w32, wu32, tdivC, tmodC]
    omega
  · rw [wmu64]
/-! ### Numbers of 128 bits -/
abbrev wideC (w : Int) : List V := [.n .i64 (w / 18446744073709551616), .n .u64 (w % 18446744073709551616)]
abbrev wideV (w : Int) : V := .agg (wideC w)
def fits2 (w : Int) : Prop := -170141183460469231731687303715884105728 ≤ w ∧ w ≤ 170141183460469231731687303715884105727
def m128 (x : Int) : Int := (x + 170141183460469231731687303715884105728) % 340282366920938463463374607431768211456 - 170141183460469231731687303715884105728
theorem m128_in {x : Int} (h : fits2 x) : m128 x = x := by unfold fits2 at h; unfold m128; omega
theorem not64 {x : Int} (h : 0 ≤ x ∧ x ≤ 18446744073709551615) : IntKind.u64.wrap ((BitVec.ofInt IntKind.u64.bits (if IntKind.u64.signed = true then -1 else IntKind.u64.max) ^^^ BitVec.ofInt IntKind.u64.bits x).toNat : Nat) = 18446744073709551615 - x := by
  obtain ⟨n, rfl⟩ : ∃ n : Nat, x = n := ⟨x.toNat, by omega⟩
  have e : (BitVec.ofInt IntKind.u64.bits (if IntKind.u64.signed = true then -1 else IntKind.u64.max) ^^^ BitVec.ofInt IntKind.u64.bits (n : Int)).toNat = 18446744073709551615 - n := by
    show (BitVec.ofInt 64 18446744073709551615 ^^^ BitVec.ofInt 64 (n : Int)).toNat = _
    rw [show BitVec.ofInt 64 18446744073709551615 = BitVec.allOnes 64 by decide, BitVec.allOnes_xor, BitVec.toNat_not, BitVec.ofInt_natCast, BitVec.toNat_ofNat, Nat.mod_eq_of_lt (by omega)]
  rw [e, wmu64]
  omega
theorem wide_end {hi lo w : Int} (h1 : hi = w / 18446744073709551616) (h2 : lo = w % 18446744073709551616) : V.agg [.n .i64 hi, .n .u64 lo] = wideV w := by rw [h1, h2]
theorem wNeg_ok (w : Int) (h : fits2 w) : Pure Try.prog 78 [wideV w] (wideV (m128 (-w))) := by
  refine pure_of_wp of78 (Nat.le_of_ble_eq_true rfl) ?_
  unfold fits2 at h
  have e1 := not64 (x := w % 18446744073709551616) (by omega)
  have e2 := not64 (x := IntKind.u64.wrap (w / 18446744073709551616)) (by rw [wmu64]; omega)
  refine CallK.mk _ (add64_ok _ _ _ ?_ ?_ ?_) rfl ?_
  · rw [e1]; omega
  · omega
  · omega
  refine CallK.mk _ (add64_ok _ _ _ ?_ ?_ ?_) rfl ?_
  · rw [e2, wmu64]; omega
  · omega
  · rw [e1]; omega
  ((repeat' first | refine DecK.tt ?_ | refine DecK.ff ?_ | refine DecK.beq (fun _ => ?_) (fun _ => ?_) | refine DecK.bne (fun _ => ?_) (fun _ => ?_) | refine DecK.dec (fun _ => ?_) (fun _ => ?_) | refine OptK.mk _ rfl ?_ | refine endV (by rfl) ?_) <;> (try with_reducible rfl))
  refine wide_end ?_ ?_
  · rw [e1, e2, wm64, wmu64, m128]; omega
  · rw [e1, m128]; omega
theorem wPlus_ok (w v : Int) (h : fits2 w) (h' : fits2 v) : Pure Try.prog 65 [wideV w, wideV v] (wideV (m128 (w + v))) := by
  refine pure_of_wp of65 (Nat.le_of_ble_eq_true rfl) ?_
  unfold fits2 at h h'
  refine CallK.mk _ (add64_ok _ _ _ ?_ ?_ ?_) rfl ?_
  · omega
  · omega
  · omega
  refine CallK.mk _ (add64_ok _ _ _ ?_ ?_ ?_) rfl ?_
  · rw [wmu64]; omega
  · rw [wmu64]; omega
  · omega
  ((repeat' first | refine DecK.tt ?_ | refine DecK.ff ?_ | refine DecK.beq (fun _ => ?_) (fun _ => ?_) | refine DecK.bne (fun _ => ?_) (fun _ => ?_) | refine DecK.dec (fun _ => ?_) (fun _ => ?_) | refine OptK.mk _ rfl ?_ | refine endV (by rfl) ?_) <;> (try with_reducible rfl))
  refine wide_end ?_ ?_
  · rw [wm64, wmu64, wmu64, m128]; omega
  · rw [m128]; omega
theorem nan1_ok (x : Int) : Pure Try.prog 85 [.n .i64 x] (.b false) := by
  refine pure_of_wp of85 (Nat.le_of_ble_eq_true rfl) ?_
  ((repeat' first | refine DecK.tt ?_ | refine DecK.ff ?_ | refine DecK.beq (fun _ => ?_) (fun _ => ?_) | refine DecK.bne (fun _ => ?_) (fun _ => ?_) | refine DecK.dec (fun _ => ?_) (fun _ => ?_) | refine OptK.mk _ rfl ?_ | refine endV (by rfl) ?_) <;> (try with_reducible rfl))
  simp
theorem nan2_ok (x : Int) : Pure Try.prog 86 [.n .u64 x] (.b false) := by
  refine pure_of_wp of86 (Nat.le_of_ble_eq_true rfl) ?_
  ((repeat' first | refine DecK.tt ?_ | refine DecK.ff ?_ | refine DecK.beq (fun _ => ?_) (fun _ => ?_) | refine DecK.bne (fun _ => ?_) (fun _ => ?_) | refine DecK.dec (fun _ => ?_) (fun _ => ?_) | refine OptK.mk _ rfl ?_ | refine endV (by rfl) ?_) <;> (try with_reducible rfl))
  simp
theorem compare1_ok (x y : Int) : Pure Try.prog 82 [.n .i64 x, .n .i64 y] (.n .i64 (icmp x y)) := by
  refine pure_of_wp of82 (Nat.le_of_ble_eq_true rfl) ?_
  repeat' first | refine DecK.tt ?_ | refine DecK.ff ?_ | refine DecK.beq (fun _ => ?_) (fun _ => ?_) | refine DecK.bne (fun _ => ?_) (fun _ => ?_) | refine DecK.dec (fun _ => ?_) (fun _ => ?_) | refine OptK.mk _ rfl ?_ | refine endV (by rfl) ?_ | (refine CallK.mk _ (nan1_ok _) rfl ?_)
  all_goals simp only [V.tup.injEq, V.agg.injEq, V.n.injEq, V.b.injEq, V.s.injEq, List.cons.injEq, true_and, and_true]
  all_goals unfold icmp
  all_goals omega
theorem compare2_ok (x y : Int) : Pure Try.prog 83 [.n .u64 x, .n .u64 y] (.n .i64 (icmp x y)) := by
  refine pure_of_wp of83 (Nat.le_of_ble_eq_true rfl) ?_
  repeat' first | refine DecK.tt ?_ | refine DecK.ff ?_ | refine DecK.beq (fun _ => ?_) (fun _ => ?_) | refine DecK.bne (fun _ => ?_) (fun _ => ?_) | refine DecK.dec (fun _ => ?_) (fun _ => ?_) | refine OptK.mk _ rfl ?_ | refine endV (by rfl) ?_ | (refine CallK.mk _ (nan2_ok _) rfl ?_)
  all_goals simp only [V.tup.injEq, V.agg.injEq, V.n.injEq, V.b.injEq, V.s.injEq, List.cons.injEq, true_and, and_true]
  all_goals unfold icmp
  all_goals omega
/-- The first that is not 0. -/
def or0 : List Int → Int
  | [] => 0
  | x :: l => if x ≠ 0 then x else or0 l
theorem or_ok (l : List Int) (t : Bool) (hl : l.length ≤ 1000000) : Pure Try.prog 81 [.sl l.length (l.flatMap ni) t] (.n .i64 (or0 l)) := by
  refine pure_of_wp of81 (Nat.le_of_ble_eq_true rfl) ?_
  refine loop_ind (fun (i : Int) => ⟨[(3, .v (.n .i64 0)), (6, .v (.sl l.length (l.flatMap ni) t)), (7, .v (.n .i64 l.length)), (8, .v (.n .i64 i))], []⟩) (fun i => l.length - i.toNat)
    (fun i => 0 ≤ i ∧ i ≤ l.length ∧ or0 (l.drop i.toNat) = or0 l) 0 (by simp) ?_
  intro iz ⟨h1, h2, h3⟩ ih
  obtain ⟨i, rfl⟩ : ∃ i : Nat, iz = i := ⟨iz.toNat, by omega⟩
  simp only [Int.toNat_natCast] at h3
  refine DecK.dec (fun h => ?_) (fun h => ?_)
  · obtain ⟨x, hx, ex⟩ := drop_at (l := l) (k := i) (by omega)
    refine OptK.mk _ (ria i rfl (by omega)) ?_
    refine OptK.mk _ (rld1 (g := fun x => .n .i64 x) hx) ?_
    rw [ex, or0] at h3
    refine DecK.bne (fun h0 => ?_) (fun h0 => ?_)
    · ((repeat' first | refine DecK.tt ?_ | refine DecK.ff ?_ | refine DecK.beq (fun _ => ?_) (fun _ => ?_) | refine DecK.bne (fun _ => ?_) (fun _ => ?_) | refine DecK.dec (fun _ => ?_) (fun _ => ?_) | refine OptK.mk _ rfl ?_ | refine endV (by rfl) ?_) <;> (try with_reducible rfl))
      rw [if_pos h0] at h3
      rw [h3]
    · have w : IntKind.i64.wrap ((i : Int) + 1) = ((i + 1 : Nat) : Int) := by simp (discharger := omega) only [w64, wu64, wu8, w32, wu32, tdivC, tmodC]; omega
      refine ih _ ⟨?_, ?_, ?_⟩ ?_
      all_goals simp only [w, Int.toNat_natCast]
      · omega
      · omega
      · rw [if_neg (by simpa using h0)] at h3; exact h3
      · omega
  · ((repeat' first | refine DecK.tt ?_ | refine DecK.ff ?_ | refine DecK.beq (fun _ => ?_) (fun _ => ?_) | refine DecK.bne (fun _ => ?_) (fun _ => ?_) | refine DecK.dec (fun _ => ?_) (fun _ => ?_) | refine OptK.mk _ rfl ?_ | refine endV (by rfl) ?_) <;> (try with_reducible rfl))
    rw [List.drop_eq_nil_of_le (by omega), or0] at h3
    rw [← h3]
theorem wCmp_ok (w v : Int) : Pure Try.prog 71 [wideV w, wideV v] (.n .i64 (icmp w v)) := by
  refine pure_of_wp of71 (Nat.le_of_ble_eq_true rfl) ?_
  refine CallK.mk _ (compare1_ok _ _) rfl ?_
  refine CallK.mk _ (compare2_ok _ _) rfl ?_
  refine CallK.mk _ (or_ok [_, _] true (by simp)) rfl ?_
  ((repeat' first | refine DecK.tt ?_ | refine DecK.ff ?_ | refine DecK.beq (fun _ => ?_) (fun _ => ?_) | refine DecK.bne (fun _ => ?_) (fun _ => ?_) | refine DecK.dec (fun _ => ?_) (fun _ => ?_) | refine OptK.mk _ rfl ?_ | refine endV (by rfl) ?_) <;> (try with_reducible rfl))
  simp only [V.tup.injEq, V.agg.injEq, V.n.injEq, V.b.injEq, V.s.injEq, List.cons.injEq, true_and, and_true]
  simp only [or0]
  unfold icmp
  omega
theorem mul_abs {a b : Int} (ha : fits a) (hb : fits b) : a.natAbs * b.natAbs ≤ 85070591730234615865843651857942052864 := by
  unfold fits at ha hb
  exact Nat.mul_le_mul (show a.natAbs ≤ 9223372036854775808 by omega) (show b.natAbs ≤ 9223372036854775808 by omega)
theorem mul_fits2 {a b : Int} (ha : fits a) (hb : fits b) : -85070591730234615865843651857942052864 ≤ a * b ∧ a * b ≤ 85070591730234615865843651857942052864 := by
  have := mul_abs ha hb
  have e := Int.natAbs_mul a b
  omega
theorem Product_ok (a b : Int) (ha : fits a) (hb : fits b) : Pure Try.prog 64 [.n .i64 a, .n .i64 b] (wideV (a * b)) := by
  refine pure_of_wp of64 (Nat.le_of_ble_eq_true rfl) ?_
  have h := mul_abs ha hb
  have h2 := mul_fits2 ha hb
  have e := Int.natAbs_mul a b
  have ec : ((a.natAbs : Int) * b.natAbs) = (a * b).natAbs := by rw [e]; rfl
  have hp : fits2 ((a * b).natAbs : Int) := by unfold fits2; omega
  have tn := wNeg_ok _ hp
  have sgn1 : (decide (a < 0) = decide (b < 0)) → ((a * b).natAbs : Int) = a * b := fun hs => by
    rw [decide_eq_decide] at hs
    by_cases s : a < 0
    · have := Int.mul_nonneg_of_nonpos_of_nonpos (show a ≤ 0 by omega) (show b ≤ 0 by omega); omega
    · have := Int.mul_nonneg (show 0 ≤ a by omega) (show 0 ≤ b by omega); omega
  have sgn2 : ¬ (decide (a < 0) = decide (b < 0)) → -((a * b).natAbs : Int) = a * b := fun hs => by
    rw [decide_eq_decide] at hs
    by_cases s : a < 0
    · have := Int.mul_nonpos_of_nonpos_of_nonneg (show a ≤ 0 by omega) (show 0 ≤ b by omega); omega
    · have := Int.mul_nonpos_of_nonneg_of_nonpos (show 0 ≤ a by omega) (show b ≤ 0 by omega); omega
  unfold fits at ha hb
  refine CallK.mk _ (size_ok a ha) rfl ?_
  refine CallK.mk _ (size_ok b hb) rfl ?_
  refine CallK.mk _ (Mul64_ok _ _ (by omega) (by omega)) rfl ?_
  have tn' : Pure Try.prog 78 [.agg [.n .i64 (IntKind.i64.wrap ((a.natAbs : Int) * b.natAbs / 18446744073709551616)), .n .u64 ((a.natAbs : Int) * b.natAbs % 18446744073709551616)]] (wideV (m128 (-((a * b).natAbs : Int)))) := by
    refine tn.args ?_
    rw [ec, w64 (by omega)]
  refine OptK.mk _ rfl ?_
  refine DecK.xor (fun hs => ?_) (fun hs => ?_)
  · rw [← decide_eq_decide] at hs
    refine CallK.mk _ tn' rfl ?_
    ((repeat' first | refine DecK.tt ?_ | refine DecK.ff ?_ | refine DecK.beq (fun _ => ?_) (fun _ => ?_) | refine DecK.bne (fun _ => ?_) (fun _ => ?_) | refine DecK.dec (fun _ => ?_) (fun _ => ?_) | refine OptK.mk _ rfl ?_ | refine endV (by rfl) ?_) <;> (try with_reducible rfl))
    refine wide_end ?_ ?_
    · rw [m128_in (by unfold fits2; omega), sgn2 hs]
    · rw [m128_in (by unfold fits2; omega), sgn2 hs]
  · rw [← decide_eq_decide] at hs
    ((repeat' first | refine DecK.tt ?_ | refine DecK.ff ?_ | refine DecK.beq (fun _ => ?_) (fun _ => ?_) | refine DecK.bne (fun _ => ?_) (fun _ => ?_) | refine DecK.dec (fun _ => ?_) (fun _ => ?_) | refine OptK.mk _ rfl ?_ | refine endV (by rfl) ?_) <;> (try with_reducible rfl))
    refine wide_end ?_ ?_
    · rw [ec, sgn1 hs, w64 (by omega)]
    · rw [ec, sgn1 hs]
theorem endTup {x y : Int} {b c : Bool} (h1 : x = y) (h2 : b = c) : V.tup [.n .i64 x, .b b] = V.tup [.n .i64 y, .b c] := by rw [h1, h2]
theorem smallT {n x : Int} (h1 : fits n) (h : x = n) : V.tup [.n .i64 x, .b true] = V.tup [.n .i64 (small n), .b (decide (fits n))] := by rw [small, if_pos h1, decide_eq_true h1, h]
theorem smallF {n : Int} (h1 : ¬ fits n) : V.tup [.n .i64 0, .b false] = V.tup [.n .i64 (small n), .b (decide (fits n))] := by rw [small, if_neg h1, decide_eq_false h1]
theorem numMul_ok (a b : Int) (ha : fits a) (hb : fits b) : Pure Try.prog 68 [.n .i64 a, .n .i64 b] (.tup [.n .i64 (small (a * b)), .b (decide (fits (a * b)))]) := by
  refine pure_of_wp of68 (Nat.le_of_ble_eq_true rfl) ?_
  have h2 := mul_fits2 ha hb
  have sh : ∀ z : Int, z.fdiv (2 ^ min (Int.toNat 63) IntKind.i64.bits) = z / 9223372036854775808 := fun z => Int.fdiv_eq_ediv_of_nonneg z (by decide)
  refine CallK.mk _ (Product_ok a b ha hb) rfl ?_
  refine OptK.mk _ rfl ?_
  refine DecK.bne (fun h => ?_) (fun h => ?_)
  · ((repeat' first | refine DecK.tt ?_ | refine DecK.ff ?_ | refine DecK.beq (fun _ => ?_) (fun _ => ?_) | refine DecK.bne (fun _ => ?_) (fun _ => ?_) | refine DecK.dec (fun _ => ?_) (fun _ => ?_) | refine OptK.mk _ rfl ?_ | refine endV (by rfl) ?_) <;> (try with_reducible rfl))
    rw [sh, wm64] at h
    exact smallF (by unfold fits; omega)
  · ((repeat' first | refine DecK.tt ?_ | refine DecK.ff ?_ | refine DecK.beq (fun _ => ?_) (fun _ => ?_) | refine DecK.bne (fun _ => ?_) (fun _ => ?_) | refine DecK.dec (fun _ => ?_) (fun _ => ?_) | refine OptK.mk _ rfl ?_ | refine endV (by rfl) ?_) <;> (try with_reducible rfl))
    rw [sh, wm64] at h
    refine smallT (by unfold fits; omega) ?_
    rw [wm64]; omega
end Go.Proofs.Ytjeafcngljbdlaa.Sv

/- Alerts: their order, the program's and the reference's. No condition. -/
import Derived.Test.YtljcbmnkjiogmaaGreatDoorAl
namespace Go.Proofs.YtljcbmnkjiogmaaGreatDoor.Sv
open Go Go.RowKit
set_option linter.unusedVariables false
set_option linter.unusedSimpArgs false
set_option maxRecDepth 100000
/-- cmp.isNaN(int) -/
def F52 : Fn1 := ⟨6, .seq (.reg [⟨some 2, none, .mv, [.cn (.b false)]⟩] [0]) (.seq (.reg [⟨some 3, none, .mv, [.tm 0]⟩, ⟨some 4, none, .mv, [.tm 0]⟩, ⟨some 5, none, .po (.bin .neq), [.tm 3, .tm 4]⟩, ⟨some 2, none, .mv, [.tm 5]⟩] [2]) .ret), [.tm 2]⟩
theorem of52 : Fn1.of Tryz.prog 52 ⟨false, [], false⟩ [[0], [2]] = some F52 := by kernel_rfl
/-- cmp.Compare(int) -/
def F28 : Fn1 := ⟨20, .seq (.reg [⟨some 4, none, .mv, [.cn (.n .i64 0)]⟩] [0, 1]) (.seq (.reg [⟨some 7, none, .mv, [.tm 0]⟩, ⟨some 8, none, .call 52, [.tm 7]⟩, ⟨some 5, none, .mv, [.tm 8]⟩] [0, 1, 5]) (.seq (.reg [⟨some 9, none, .mv, [.tm 1]⟩, ⟨some 10, none, .call 52, [.tm 9]⟩, ⟨some 6, none, .mv, [.tm 10]⟩] [0, 1, 5, 6]) (.seq (.seq (.reg [⟨some 11, none, .mv, [.tm 5]⟩] [0, 1, 6, 11]) (.cond (.tm 11) (.seq (.seq (.reg [⟨some 12, none, .mv, [.tm 6]⟩] [12]) (.cond (.tm 12) (.seq (.reg [⟨some 4, none, .mv, [.cn (.n .i64 0)]⟩] [4]) .ret) .skip)) (.seq (.reg [⟨some 4, none, .mv, [.cn (.n .i64 (-1))]⟩] [4]) .ret)) .skip)) (.seq (.seq (.reg [⟨some 13, none, .mv, [.tm 6]⟩] [0, 1, 13]) (.cond (.tm 13) (.seq (.reg [⟨some 4, none, .mv, [.cn (.n .i64 1)]⟩] [4]) .ret) .skip)) (.seq (.seq (.reg [⟨some 14, none, .mv, [.tm 0]⟩, ⟨some 15, none, .mv, [.tm 1]⟩, ⟨some 16, none, .po (.bin .lss), [.tm 14, .tm 15]⟩] [0, 1, 16]) (.cond (.tm 16) (.seq (.reg [⟨some 4, none, .mv, [.cn (.n .i64 (-1))]⟩] [4]) .ret) .skip)) (.seq (.seq (.reg [⟨some 17, none, .mv, [.tm 0]⟩, ⟨some 18, none, .mv, [.tm 1]⟩, ⟨some 19, none, .po (.bin .gtr), [.tm 17, .tm 18]⟩] [19]) (.cond (.tm 19) (.seq (.reg [⟨some 4, none, .mv, [.cn (.n .i64 1)]⟩] [4]) .ret) .skip)) (.seq (.reg [⟨some 4, none, .mv, [.cn (.n .i64 0)]⟩] [4]) .ret))))))), [.tm 4]⟩
theorem of28 : Fn1.of Tryz.prog 28 ⟨false, [], false⟩ [[0, 1], [0, 1, 5], [0, 1, 5, 6], [0, 1, 6, 11], [12], [4], [4], [0, 1, 13], [4], [0, 1, 16], [4], [19], [4], [4]] = some F28 := by kernel_rfl
/-- cmp.isNaN(spyglass/api.Tick) -/
def F78 : Fn1 := ⟨6, .seq (.reg [⟨some 2, none, .mv, [.cn (.b false)]⟩] [0]) (.seq (.reg [⟨some 3, none, .mv, [.tm 0]⟩, ⟨some 4, none, .mv, [.tm 0]⟩, ⟨some 5, none, .po (.bin .neq), [.tm 3, .tm 4]⟩, ⟨some 2, none, .mv, [.tm 5]⟩] [2]) .ret), [.tm 2]⟩
theorem of78 : Fn1.of Tryz.prog 78 ⟨false, [], false⟩ [[0], [2]] = some F78 := by kernel_rfl
/-- cmp.Compare(spyglass/api.Tick) -/
def F53 : Fn1 := ⟨20, .seq (.reg [⟨some 4, none, .mv, [.cn (.n .i64 0)]⟩] [0, 1]) (.seq (.reg [⟨some 7, none, .mv, [.tm 0]⟩, ⟨some 8, none, .call 78, [.tm 7]⟩, ⟨some 5, none, .mv, [.tm 8]⟩] [0, 1, 5]) (.seq (.reg [⟨some 9, none, .mv, [.tm 1]⟩, ⟨some 10, none, .call 78, [.tm 9]⟩, ⟨some 6, none, .mv, [.tm 10]⟩] [0, 1, 5, 6]) (.seq (.seq (.reg [⟨some 11, none, .mv, [.tm 5]⟩] [0, 1, 6, 11]) (.cond (.tm 11) (.seq (.seq (.reg [⟨some 12, none, .mv, [.tm 6]⟩] [12]) (.cond (.tm 12) (.seq (.reg [⟨some 4, none, .mv, [.cn (.n .i64 0)]⟩] [4]) .ret) .skip)) (.seq (.reg [⟨some 4, none, .mv, [.cn (.n .i64 (-1))]⟩] [4]) .ret)) .skip)) (.seq (.seq (.reg [⟨some 13, none, .mv, [.tm 6]⟩] [0, 1, 13]) (.cond (.tm 13) (.seq (.reg [⟨some 4, none, .mv, [.cn (.n .i64 1)]⟩] [4]) .ret) .skip)) (.seq (.seq (.reg [⟨some 14, none, .mv, [.tm 0]⟩, ⟨some 15, none, .mv, [.tm 1]⟩, ⟨some 16, none, .po (.bin .lss), [.tm 14, .tm 15]⟩] [0, 1, 16]) (.cond (.tm 16) (.seq (.reg [⟨some 4, none, .mv, [.cn (.n .i64 (-1))]⟩] [4]) .ret) .skip)) (.seq (.seq (.reg [⟨some 17, none, .mv, [.tm 0]⟩, ⟨some 18, none, .mv, [.tm 1]⟩, ⟨some 19, none, .po (.bin .gtr), [.tm 17, .tm 18]⟩] [19]) (.cond (.tm 19) (.seq (.reg [⟨some 4, none, .mv, [.cn (.n .i64 1)]⟩] [4]) .ret) .skip)) (.seq (.reg [⟨some 4, none, .mv, [.cn (.n .i64 0)]⟩] [4]) .ret))))))), [.tm 4]⟩
theorem of53 : Fn1.of Tryz.prog 53 ⟨false, [], false⟩ [[0, 1], [0, 1, 5], [0, 1, 5, 6], [0, 1, 6, 11], [12], [4], [4], [0, 1, 13], [4], [0, 1, 16], [4], [19], [4], [4]] = some F53 := by kernel_rfl
/-- cmp.isNaN(spyglass/api.Arc) -/
def F79 : Fn1 := ⟨6, .seq (.reg [⟨some 2, none, .mv, [.cn (.b false)]⟩] [0]) (.seq (.reg [⟨some 3, none, .mv, [.tm 0]⟩, ⟨some 4, none, .mv, [.tm 0]⟩, ⟨some 5, none, .po (.bin .neq), [.tm 3, .tm 4]⟩, ⟨some 2, none, .mv, [.tm 5]⟩] [2]) .ret), [.tm 2]⟩
theorem of79 : Fn1.of Tryz.prog 79 ⟨false, [], false⟩ [[0], [2]] = some F79 := by kernel_rfl
/-- cmp.Compare(spyglass/api.Arc) -/
def F54 : Fn1 := ⟨20, .seq (.reg [⟨some 4, none, .mv, [.cn (.n .i64 0)]⟩] [0, 1]) (.seq (.reg [⟨some 7, none, .mv, [.tm 0]⟩, ⟨some 8, none, .call 79, [.tm 7]⟩, ⟨some 5, none, .mv, [.tm 8]⟩] [0, 1, 5]) (.seq (.reg [⟨some 9, none, .mv, [.tm 1]⟩, ⟨some 10, none, .call 79, [.tm 9]⟩, ⟨some 6, none, .mv, [.tm 10]⟩] [0, 1, 5, 6]) (.seq (.seq (.reg [⟨some 11, none, .mv, [.tm 5]⟩] [0, 1, 6, 11]) (.cond (.tm 11) (.seq (.seq (.reg [⟨some 12, none, .mv, [.tm 6]⟩] [12]) (.cond (.tm 12) (.seq (.reg [⟨some 4, none, .mv, [.cn (.n .i64 0)]⟩] [4]) .ret) .skip)) (.seq (.reg [⟨some 4, none, .mv, [.cn (.n .i64 (-1))]⟩] [4]) .ret)) .skip)) (.seq (.seq (.reg [⟨some 13, none, .mv, [.tm 6]⟩] [0, 1, 13]) (.cond (.tm 13) (.seq (.reg [⟨some 4, none, .mv, [.cn (.n .i64 1)]⟩] [4]) .ret) .skip)) (.seq (.seq (.reg [⟨some 14, none, .mv, [.tm 0]⟩, ⟨some 15, none, .mv, [.tm 1]⟩, ⟨some 16, none, .po (.bin .lss), [.tm 14, .tm 15]⟩] [0, 1, 16]) (.cond (.tm 16) (.seq (.reg [⟨some 4, none, .mv, [.cn (.n .i64 (-1))]⟩] [4]) .ret) .skip)) (.seq (.seq (.reg [⟨some 17, none, .mv, [.tm 0]⟩, ⟨some 18, none, .mv, [.tm 1]⟩, ⟨some 19, none, .po (.bin .gtr), [.tm 17, .tm 18]⟩] [19]) (.cond (.tm 19) (.seq (.reg [⟨some 4, none, .mv, [.cn (.n .i64 1)]⟩] [4]) .ret) .skip)) (.seq (.reg [⟨some 4, none, .mv, [.cn (.n .i64 0)]⟩] [4]) .ret))))))), [.tm 4]⟩
theorem of54 : Fn1.of Tryz.prog 54 ⟨false, [], false⟩ [[0, 1], [0, 1, 5], [0, 1, 5, 6], [0, 1, 6, 11], [12], [4], [4], [0, 1, 13], [4], [0, 1, 16], [4], [19], [4], [4]] = some F54 := by kernel_rfl
/-- cmp.isNaN(spyglass/api.Quanta) -/
def F80 : Fn1 := ⟨6, .seq (.reg [⟨some 2, none, .mv, [.cn (.b false)]⟩] [0]) (.seq (.reg [⟨some 3, none, .mv, [.tm 0]⟩, ⟨some 4, none, .mv, [.tm 0]⟩, ⟨some 5, none, .po (.bin .neq), [.tm 3, .tm 4]⟩, ⟨some 2, none, .mv, [.tm 5]⟩] [2]) .ret), [.tm 2]⟩
theorem of80 : Fn1.of Tryz.prog 80 ⟨false, [], false⟩ [[0], [2]] = some F80 := by kernel_rfl
/-- cmp.Compare(spyglass/api.Quanta) -/
def F55 : Fn1 := ⟨20, .seq (.reg [⟨some 4, none, .mv, [.cn (.n .i64 0)]⟩] [0, 1]) (.seq (.reg [⟨some 7, none, .mv, [.tm 0]⟩, ⟨some 8, none, .call 80, [.tm 7]⟩, ⟨some 5, none, .mv, [.tm 8]⟩] [0, 1, 5]) (.seq (.reg [⟨some 9, none, .mv, [.tm 1]⟩, ⟨some 10, none, .call 80, [.tm 9]⟩, ⟨some 6, none, .mv, [.tm 10]⟩] [0, 1, 5, 6]) (.seq (.seq (.reg [⟨some 11, none, .mv, [.tm 5]⟩] [0, 1, 6, 11]) (.cond (.tm 11) (.seq (.seq (.reg [⟨some 12, none, .mv, [.tm 6]⟩] [12]) (.cond (.tm 12) (.seq (.reg [⟨some 4, none, .mv, [.cn (.n .i64 0)]⟩] [4]) .ret) .skip)) (.seq (.reg [⟨some 4, none, .mv, [.cn (.n .i64 (-1))]⟩] [4]) .ret)) .skip)) (.seq (.seq (.reg [⟨some 13, none, .mv, [.tm 6]⟩] [0, 1, 13]) (.cond (.tm 13) (.seq (.reg [⟨some 4, none, .mv, [.cn (.n .i64 1)]⟩] [4]) .ret) .skip)) (.seq (.seq (.reg [⟨some 14, none, .mv, [.tm 0]⟩, ⟨some 15, none, .mv, [.tm 1]⟩, ⟨some 16, none, .po (.bin .lss), [.tm 14, .tm 15]⟩] [0, 1, 16]) (.cond (.tm 16) (.seq (.reg [⟨some 4, none, .mv, [.cn (.n .i64 (-1))]⟩] [4]) .ret) .skip)) (.seq (.seq (.reg [⟨some 17, none, .mv, [.tm 0]⟩, ⟨some 18, none, .mv, [.tm 1]⟩, ⟨some 19, none, .po (.bin .gtr), [.tm 17, .tm 18]⟩] [19]) (.cond (.tm 19) (.seq (.reg [⟨some 4, none, .mv, [.cn (.n .i64 1)]⟩] [4]) .ret) .skip)) (.seq (.reg [⟨some 4, none, .mv, [.cn (.n .i64 0)]⟩] [4]) .ret))))))), [.tm 4]⟩
theorem of55 : Fn1.of Tryz.prog 55 ⟨false, [], false⟩ [[0, 1], [0, 1, 5], [0, 1, 5, 6], [0, 1, 6, 11], [12], [4], [4], [0, 1, 13], [4], [0, 1, 16], [4], [19], [4], [4]] = some F55 := by kernel_rfl
/-- spyglass/alert.order(spyglass/api.Tick) -/
def F29 : Fn1 := ⟨24, .seq (.reg [⟨some 2, none, .box, [.tm 0]⟩, ⟨some 3, none, .box, [.tm 1]⟩, ⟨some 4, none, .mv, [.cn (.n .i64 0)]⟩] [2, 3]) (.seq (.seq (.reg [⟨some 5, none, .fa 2, [.tm 2]⟩, ⟨some 6, none, .ld false 1 false, [.tm 5]⟩, ⟨some 7, none, .fa 2, [.tm 3]⟩, ⟨some 8, none, .ld false 1 false, [.tm 7]⟩, ⟨some 9, none, .po (.beq true), [.tm 6, .tm 8]⟩] [2, 3, 9]) (.cond (.tm 9) (.seq (.seq (.reg [⟨some 10, none, .fa 2, [.tm 3]⟩, ⟨some 11, none, .ld false 1 false, [.tm 10]⟩] [11]) (.cond (.tm 11) (.seq (.reg [⟨some 4, none, .mv, [.cn (.n .i64 (-1))]⟩] [4]) .ret) .skip)) (.seq (.reg [⟨some 4, none, .mv, [.cn (.n .i64 1)]⟩] [4]) .ret)) .skip)) (.seq (.dreg [⟨some 12, none, .fa 0, [.tm 2]⟩, ⟨some 13, none, .ld false 1 false, [.tm 12]⟩, ⟨some 14, none, .fa 0, [.tm 3]⟩, ⟨some 15, none, .ld false 1 false, [.tm 14]⟩, ⟨some 16, none, .call 53, [.tm 13, .tm 15]⟩, ⟨some 17, none, .fa 1, [.tm 2]⟩, ⟨some 18, none, .ld false 1 false, [.tm 17]⟩, ⟨some 19, none, .fa 1, [.tm 3]⟩, ⟨some 20, none, .ld false 1 false, [.tm 19]⟩, ⟨some 21, none, .call 53, [.tm 18, .tm 20]⟩, ⟨some 22, none, .po (.bsl 2 [.n .i64 0] [(0, 1), (1, 1)]), [.tm 16, .tm 21]⟩, ⟨some 23, none, .call 27, [.tm 22]⟩, ⟨some 4, none, .mv, [.tm 23]⟩] [] [4]) .ret)), [.tm 4]⟩
theorem of29 : Fn1.of Tryz.prog 29 ⟨false, [], false⟩ [[2, 3], [2, 3, 9], [11], [4], [4], [4]] = some F29 := by kernel_rfl
/-- spyglass/alert.order(spyglass/api.Arc) -/
def F30 : Fn1 := ⟨24, .seq (.reg [⟨some 2, none, .box, [.tm 0]⟩, ⟨some 3, none, .box, [.tm 1]⟩, ⟨some 4, none, .mv, [.cn (.n .i64 0)]⟩] [2, 3]) (.seq (.seq (.reg [⟨some 5, none, .fa 2, [.tm 2]⟩, ⟨some 6, none, .ld false 1 false, [.tm 5]⟩, ⟨some 7, none, .fa 2, [.tm 3]⟩, ⟨some 8, none, .ld false 1 false, [.tm 7]⟩, ⟨some 9, none, .po (.beq true), [.tm 6, .tm 8]⟩] [2, 3, 9]) (.cond (.tm 9) (.seq (.seq (.reg [⟨some 10, none, .fa 2, [.tm 3]⟩, ⟨some 11, none, .ld false 1 false, [.tm 10]⟩] [11]) (.cond (.tm 11) (.seq (.reg [⟨some 4, none, .mv, [.cn (.n .i64 (-1))]⟩] [4]) .ret) .skip)) (.seq (.reg [⟨some 4, none, .mv, [.cn (.n .i64 1)]⟩] [4]) .ret)) .skip)) (.seq (.dreg [⟨some 12, none, .fa 0, [.tm 2]⟩, ⟨some 13, none, .ld false 1 false, [.tm 12]⟩, ⟨some 14, none, .fa 0, [.tm 3]⟩, ⟨some 15, none, .ld false 1 false, [.tm 14]⟩, ⟨some 16, none, .call 54, [.tm 13, .tm 15]⟩, ⟨some 17, none, .fa 1, [.tm 2]⟩, ⟨some 18, none, .ld false 1 false, [.tm 17]⟩, ⟨some 19, none, .fa 1, [.tm 3]⟩, ⟨some 20, none, .ld false 1 false, [.tm 19]⟩, ⟨some 21, none, .call 54, [.tm 18, .tm 20]⟩, ⟨some 22, none, .po (.bsl 2 [.n .i64 0] [(0, 1), (1, 1)]), [.tm 16, .tm 21]⟩, ⟨some 23, none, .call 27, [.tm 22]⟩, ⟨some 4, none, .mv, [.tm 23]⟩] [] [4]) .ret)), [.tm 4]⟩
theorem of30 : Fn1.of Tryz.prog 30 ⟨false, [], false⟩ [[2, 3], [2, 3, 9], [11], [4], [4], [4]] = some F30 := by kernel_rfl
/-- spyglass/alert.order(spyglass/api.Quanta) -/
def F31 : Fn1 := ⟨24, .seq (.reg [⟨some 2, none, .box, [.tm 0]⟩, ⟨some 3, none, .box, [.tm 1]⟩, ⟨some 4, none, .mv, [.cn (.n .i64 0)]⟩] [2, 3]) (.seq (.seq (.reg [⟨some 5, none, .fa 2, [.tm 2]⟩, ⟨some 6, none, .ld false 1 false, [.tm 5]⟩, ⟨some 7, none, .fa 2, [.tm 3]⟩, ⟨some 8, none, .ld false 1 false, [.tm 7]⟩, ⟨some 9, none, .po (.beq true), [.tm 6, .tm 8]⟩] [2, 3, 9]) (.cond (.tm 9) (.seq (.seq (.reg [⟨some 10, none, .fa 2, [.tm 3]⟩, ⟨some 11, none, .ld false 1 false, [.tm 10]⟩] [11]) (.cond (.tm 11) (.seq (.reg [⟨some 4, none, .mv, [.cn (.n .i64 (-1))]⟩] [4]) .ret) .skip)) (.seq (.reg [⟨some 4, none, .mv, [.cn (.n .i64 1)]⟩] [4]) .ret)) .skip)) (.seq (.dreg [⟨some 12, none, .fa 0, [.tm 2]⟩, ⟨some 13, none, .ld false 1 false, [.tm 12]⟩, ⟨some 14, none, .fa 0, [.tm 3]⟩, ⟨some 15, none, .ld false 1 false, [.tm 14]⟩, ⟨some 16, none, .call 55, [.tm 13, .tm 15]⟩, ⟨some 17, none, .fa 1, [.tm 2]⟩, ⟨some 18, none, .ld false 1 false, [.tm 17]⟩, ⟨some 19, none, .fa 1, [.tm 3]⟩, ⟨some 20, none, .ld false 1 false, [.tm 19]⟩, ⟨some 21, none, .call 55, [.tm 18, .tm 20]⟩, ⟨some 22, none, .po (.bsl 2 [.n .i64 0] [(0, 1), (1, 1)]), [.tm 16, .tm 21]⟩, ⟨some 23, none, .call 27, [.tm 22]⟩, ⟨some 4, none, .mv, [.tm 23]⟩] [] [4]) .ret)), [.tm 4]⟩
theorem of31 : Fn1.of Tryz.prog 31 ⟨false, [], false⟩ [[2, 3], [2, 3, 9], [11], [4], [4], [4]] = some F31 := by kernel_rfl
/-- spyglass/alert.Cmp -/
def F10 : Fn1 := ⟨47, .seq (.reg [⟨some 2, none, .box, [.tm 0]⟩, ⟨some 3, none, .box, [.tm 1]⟩, ⟨some 4, none, .mv, [.cn (.n .i64 0)]⟩] [2, 3]) (.seq (.dreg [⟨some 5, none, .fa 0, [.tm 2]⟩, ⟨some 6, none, .ld false 1 false, [.tm 5]⟩, ⟨some 7, none, .fa 0, [.tm 3]⟩, ⟨some 8, none, .ld false 1 false, [.tm 7]⟩, ⟨some 9, none, .call 28, [.tm 6, .tm 8]⟩, ⟨some 10, none, .fa 1, [.tm 2]⟩, ⟨some 11, none, .ld false 1 false, [.tm 10]⟩, ⟨some 12, none, .fa 1, [.tm 3]⟩, ⟨some 13, none, .ld false 1 false, [.tm 12]⟩, ⟨some 14, none, .call 28, [.tm 11, .tm 13]⟩, ⟨some 15, none, .fa 2, [.tm 2]⟩, ⟨some 16, none, .ld false 1 false, [.tm 15]⟩, ⟨some 17, none, .fa 2, [.tm 3]⟩, ⟨some 18, none, .ld false 1 false, [.tm 17]⟩, ⟨some 19, none, .call 28, [.tm 16, .tm 18]⟩, ⟨some 20, none, .fa 15, [.tm 2]⟩, ⟨some 21, none, .ld false 1 false, [.tm 20]⟩, ⟨some 22, none, .fa 15, [.tm 3]⟩, ⟨some 23, none, .ld false 1 false, [.tm 22]⟩, ⟨some 24, none, .call 28, [.tm 21, .tm 23]⟩, ⟨some 25, none, .fa 3, [.tm 2]⟩, ⟨some 26, none, .ld true 3 false, [.tm 25]⟩, ⟨some 27, none, .fa 3, [.tm 3]⟩, ⟨some 28, none, .ld true 3 false, [.tm 27]⟩, ⟨some 29, none, .call 29, [.tm 26, .tm 28]⟩, ⟨some 30, none, .fa 6, [.tm 2]⟩, ⟨some 31, none, .ld true 3 false, [.tm 30]⟩, ⟨some 32, none, .fa 6, [.tm 3]⟩, ⟨some 33, none, .ld true 3 false, [.tm 32]⟩, ⟨some 34, none, .call 30, [.tm 31, .tm 33]⟩, ⟨some 35, none, .fa 9, [.tm 2]⟩, ⟨some 36, none, .ld true 3 false, [.tm 35]⟩, ⟨some 37, none, .fa 9, [.tm 3]⟩, ⟨some 38, none, .ld true 3 false, [.tm 37]⟩, ⟨some 39, none, .call 30, [.tm 36, .tm 38]⟩, ⟨some 40, none, .fa 12, [.tm 2]⟩, ⟨some 41, none, .ld true 3 false, [.tm 40]⟩, ⟨some 42, none, .fa 12, [.tm 3]⟩, ⟨some 43, none, .ld true 3 false, [.tm 42]⟩, ⟨some 44, none, .call 31, [.tm 41, .tm 43]⟩, ⟨some 45, none, .po (.bsl 8 [.n .i64 0] [(0, 1), (1, 1), (2, 1), (3, 1), (4, 1), (5, 1), (6, 1), (7, 1)]), [.tm 9, .tm 14, .tm 19, .tm 24, .tm 29, .tm 34, .tm 39, .tm 44]⟩, ⟨some 46, none, .call 27, [.tm 45]⟩, ⟨some 4, none, .mv, [.tm 46]⟩] [] [4]) .ret), [.tm 4]⟩
theorem of10 : Fn1.of Tryz.prog 10 ⟨false, [], false⟩ [[2, 3], [4]] = some F10 := by kernel_rfl
/-- spyglass/spyref1.AlertKey -/
def F12 : Fn1 := ⟨57, .seq (.reg [⟨some 1, none, .box, [.tm 0]⟩, ⟨some 2, none, .mv, [.cn (.sl 0 [] true)]⟩] [1]) (.seq (.reg [⟨some 3, none, .mv, [.cn (.clo (.func 32) [] [])]⟩] [1, 3]) (.seq (.dreg [⟨some 4, none, .fa 0, [.tm 1]⟩, ⟨some 5, none, .ld false 1 false, [.tm 4]⟩, ⟨some 6, none, .fa 1, [.tm 1]⟩, ⟨some 7, none, .ld false 1 false, [.tm 6]⟩, ⟨some 8, none, .fa 2, [.tm 1]⟩, ⟨some 9, none, .ld false 1 false, [.tm 8]⟩, ⟨some 10, none, .fa 15, [.tm 1]⟩, ⟨some 11, none, .ld false 1 false, [.tm 10]⟩, ⟨some 12, none, .mv, [.tm 3]⟩, ⟨some 13, none, .fa 3, [.tm 1]⟩, ⟨some 14, none, .fa 2, [.tm 13]⟩, ⟨some 15, none, .ld false 1 false, [.tm 14]⟩, ⟨some 16, none, .callD, [.tm 12, .tm 15]⟩, ⟨some 17, none, .fa 3, [.tm 1]⟩, ⟨some 18, none, .fa 0, [.tm 17]⟩, ⟨some 19, none, .ld false 1 false, [.tm 18]⟩, ⟨some 20, none, .fa 3, [.tm 1]⟩, ⟨some 21, none, .fa 1, [.tm 20]⟩, ⟨some 22, none, .ld false 1 false, [.tm 21]⟩, ⟨some 23, none, .mv, [.tm 3]⟩, ⟨some 24, none, .fa 6, [.tm 1]⟩, ⟨some 25, none, .fa 2, [.tm 24]⟩, ⟨some 26, none, .ld false 1 false, [.tm 25]⟩, ⟨some 27, none, .callD, [.tm 23, .tm 26]⟩, ⟨some 28, none, .fa 6, [.tm 1]⟩, ⟨some 29, none, .fa 0, [.tm 28]⟩, ⟨some 30, none, .ld false 1 false, [.tm 29]⟩, ⟨some 31, none, .fa 6, [.tm 1]⟩, ⟨some 32, none, .fa 1, [.tm 31]⟩, ⟨some 33, none, .ld false 1 false, [.tm 32]⟩, ⟨some 34, none, .mv, [.tm 3]⟩, ⟨some 35, none, .fa 9, [.tm 1]⟩, ⟨some 36, none, .fa 2, [.tm 35]⟩, ⟨some 37, none, .ld false 1 false, [.tm 36]⟩, ⟨some 38, none, .callD, [.tm 34, .tm 37]⟩, ⟨some 39, none, .fa 9, [.tm 1]⟩, ⟨some 40, none, .fa 0, [.tm 39]⟩, ⟨some 41, none, .ld false 1 false, [.tm 40]⟩, ⟨some 42, none, .fa 9, [.tm 1]⟩, ⟨some 43, none, .fa 1, [.tm 42]⟩, ⟨some 44, none, .ld false 1 false, [.tm 43]⟩, ⟨some 45, none, .mv, [.tm 3]⟩, ⟨some 46, none, .fa 12, [.tm 1]⟩, ⟨some 47, none, .fa 2, [.tm 46]⟩, ⟨some 48, none, .ld false 1 false, [.tm 47]⟩, ⟨some 49, none, .callD, [.tm 45, .tm 48]⟩, ⟨some 50, none, .fa 12, [.tm 1]⟩, ⟨some 51, none, .fa 0, [.tm 50]⟩, ⟨some 52, none, .ld false 1 false, [.tm 51]⟩, ⟨some 53, none, .fa 12, [.tm 1]⟩, ⟨some 54, none, .fa 1, [.tm 53]⟩, ⟨some 55, none, .ld false 1 false, [.tm 54]⟩, ⟨some 56, none, .po (.bsl 16 [.n .i64 0] [(0, 1), (1, 1), (2, 1), (3, 1), (4, 1), (5, 1), (6, 1), (7, 1), (8, 1), (9, 1), (10, 1), (11, 1), (12, 1), (13, 1), (14, 1), (15, 1)]), [.tm 5, .tm 7, .tm 9, .tm 11, .tm 16, .tm 19, .tm 22, .tm 27, .tm 30, .tm 33, .tm 38, .tm 41, .tm 44, .tm 49, .tm 52, .tm 55]⟩, ⟨some 2, none, .mv, [.tm 56]⟩] [] [2]) .ret)), [.tm 2]⟩
theorem of12 : Fn1.of Tryz.prog 12 ⟨false, [], false⟩ [[1], [1, 3], [2]] = some F12 := by kernel_rfl
/-- spyglass/spyref1.AlertKey$1 -/
def F32 : Fn1 := ⟨4, .seq (.reg [⟨some 2, none, .mv, [.cn (.n .i64 0)]⟩] [0]) (.seq (.seq (.reg [⟨some 3, none, .mv, [.tm 0]⟩] [3]) (.cond (.tm 3) (.seq (.reg [⟨some 2, none, .mv, [.cn (.n .i64 1)]⟩] [2]) .ret) .skip)) (.seq (.reg [⟨some 2, none, .mv, [.cn (.n .i64 0)]⟩] [2]) .ret)), [.tm 2]⟩
theorem of32 : Fn1.of Tryz.prog 32 ⟨false, [], false⟩ [[0], [3], [2], [2]] = some F32 := by kernel_rfl
/-- live: [0, 1, 9, 10, 11] -/
def L11_0 : SC := .seq (.reg [⟨some 12, none, .po (.bin .lss), [.tm 11, .tm 10]⟩] [0, 1, 9, 10, 11, 12]) (.seq (.cond (.tm 12) .skip (.exit 0)) (.seq (.block 1 (.seq (.reg [⟨some 13, none, .mv, [.tm 11]⟩, ⟨some 14, none, .ia none 1, [.tm 9, .tm 11]⟩, ⟨some 15, none, .ld false 1 true, [.tm 14]⟩, ⟨some 5, none, .mv, [.tm 13]⟩, ⟨some 6, none, .mv, [.tm 15]⟩] [0, 1, 5, 6, 9, 10, 11]) (.seq (.seq (.reg [⟨some 16, none, .mv, [.tm 5]⟩, ⟨some 17, none, .mv, [.tm 1]⟩, ⟨some 18, none, .len false, [.tm 17]⟩, ⟨some 19, none, .po (.bin .geq), [.tm 16, .tm 18]⟩] [0, 1, 5, 6, 9, 10, 11, 19]) (.cond (.tm 19) (.seq (.reg [⟨some 4, none, .mv, [.cn (.n .i64 1)]⟩] [4]) .ret) .skip)) (.seq (.reg [⟨some 20, none, .mv, [.tm 1]⟩, ⟨some 21, none, .mv, [.tm 5]⟩, ⟨some 22, none, .ia none 1, [.tm 20, .tm 21]⟩, ⟨some 23, none, .ld false 1 true, [.tm 22]⟩, ⟨some 7, none, .mv, [.tm 23]⟩] [0, 1, 6, 7, 9, 10, 11]) (.seq (.reg [⟨some 24, none, .mv, [.tm 6]⟩, ⟨some 25, none, .mv, [.tm 7]⟩, ⟨some 26, none, .call 28, [.tm 24, .tm 25]⟩, ⟨some 8, none, .mv, [.tm 26]⟩] [0, 1, 8, 9, 10, 11]) (.seq (.reg [⟨some 27, none, .mv, [.tm 8]⟩, ⟨some 28, none, .po (.bin .neq), [.tm 27, .cn (.n .i64 0)]⟩] [0, 1, 8, 9, 10, 11, 28]) (.cond (.tm 28) (.seq (.reg [⟨some 29, none, .mv, [.tm 8]⟩, ⟨some 4, none, .mv, [.tm 29]⟩] [4]) .ret) .skip))))))) (.reg [⟨some 30, none, .po (.bin .add), [.tm 11, .cn (.n .i64 1)]⟩, ⟨some 11, none, .mv, [.tm 30]⟩] [0, 1, 9, 10, 11])))
/-- slices.Compare(()int,int) -/
def F11 : Fn1 := ⟨36, .seq (.reg [⟨some 4, none, .mv, [.cn (.n .i64 0)]⟩] [0, 1]) (.seq (.seq (.reg [⟨some 9, none, .mv, [.tm 0]⟩, ⟨some 10, none, .len false, [.tm 9]⟩, ⟨some 11, none, .mv, [.cn (.n .i64 0)]⟩] [0, 1, 9, 10, 11]) (.block 0 (.loop [0, 1, 9, 10, 11] L11_0))) (.seq (.seq (.reg [⟨some 31, none, .mv, [.tm 0]⟩, ⟨some 32, none, .len false, [.tm 31]⟩, ⟨some 33, none, .mv, [.tm 1]⟩, ⟨some 34, none, .len false, [.tm 33]⟩, ⟨some 35, none, .po (.bin .lss), [.tm 32, .tm 34]⟩] [35]) (.cond (.tm 35) (.seq (.reg [⟨some 4, none, .mv, [.cn (.n .i64 (-1))]⟩] [4]) .ret) .skip)) (.seq (.reg [⟨some 4, none, .mv, [.cn (.n .i64 0)]⟩] [4]) .ret))), [.tm 4]⟩
theorem of11 : Fn1.of Tryz.prog 11 ⟨false, [], false⟩ [[0, 1], [0, 1, 9, 10, 11], [0, 1, 9, 10, 11], [0, 1, 9, 10, 11, 12], [0, 1, 5, 6, 9, 10, 11], [0, 1, 5, 6, 9, 10, 11, 19], [4], [0, 1, 6, 7, 9, 10, 11], [0, 1, 8, 9, 10, 11], [0, 1, 8, 9, 10, 11, 28], [4], [0, 1, 9, 10, 11], [35], [4], [4]] = some F11 := by kernel_rfl
theorem nanInt (x : Int) : Pure Tryz.prog 52 [.n .i64 x] (.b false) := by
  refine pure_of_wp of52 (Nat.le_of_ble_eq_true rfl) ?_
  exact endV (e := .b (x != x)) rfl (by simp)
theorem cmpInt (a b : Int) : Pure Tryz.prog 28 [.n .i64 a, .n .i64 b] (.n .i64 (icmp a b)) := by
  refine pure_of_wp of28 (Nat.le_of_ble_eq_true rfl) ?_
  refine CallK.mk _ (nanInt a) rfl ?_
  refine CallK.mk _ (nanInt b) rfl ?_
  refine DecK.ff ?_
  refine DecK.ff ?_
  refine DecK.dec (fun h => ?_) (fun h => ?_)
  · rw [icmp_lt h]; rfl
  refine DecK.dec (fun h => ?_) (fun h' => ?_)
  · rw [icmp_gt h]; rfl
  · rw [icmp_eq (by omega)]; rfl
/-- The order of two bounds. -/
def ordB (lo hi : Int) (u : Bool) (lo' hi' : Int) (u' : Bool) : Int := if u ≠ u' then (if u' then -1 else 1) else or0 [icmp lo lo', icmp hi hi']
theorem nanTick (x : Int) : Pure Tryz.prog 78 [.n .i64 x] (.b false) := by
  refine pure_of_wp of78 (Nat.le_of_ble_eq_true rfl) ?_
  exact endV (e := .b (x != x)) rfl (by simp)
theorem cmpTick (a b : Int) : Pure Tryz.prog 53 [.n .i64 a, .n .i64 b] (.n .i64 (icmp a b)) := by
  refine pure_of_wp of53 (Nat.le_of_ble_eq_true rfl) ?_
  refine CallK.mk _ (nanTick a) rfl ?_
  refine CallK.mk _ (nanTick b) rfl ?_
  refine DecK.ff ?_
  refine DecK.ff ?_
  refine DecK.dec (fun h => ?_) (fun h => ?_)
  · rw [icmp_lt h]; rfl
  refine DecK.dec (fun h => ?_) (fun h' => ?_)
  · rw [icmp_gt h]; rfl
  · rw [icmp_eq (by omega)]; rfl
theorem orderTick (lo hi : Int) (u : Bool) (lo' hi' : Int) (u' : Bool) : Pure Tryz.prog 29 [bdV lo hi u, bdV lo' hi' u'] (.n .i64 (ordB lo hi u lo' hi' u')) := by
  refine pure_of_wp of29 (Nat.le_of_ble_eq_true rfl) ?_
  cases u <;> cases u'
  · refine DecK.no rfl ?_
    refine CallK.mk _ (cmpTick lo lo') rfl ?_
    refine CallK.mk _ (cmpTick hi hi') rfl ?_
    refine CallK.mk _ (or_ok [icmp lo lo', icmp hi hi'] true (by simp)) rfl ?_
    rfl
  · refine DecK.yes rfl ?_
    refine DecK.tt ?_
    rfl
  · refine DecK.yes rfl ?_
    refine DecK.ff ?_
    rfl
  · refine DecK.no rfl ?_
    refine CallK.mk _ (cmpTick lo lo') rfl ?_
    refine CallK.mk _ (cmpTick hi hi') rfl ?_
    refine CallK.mk _ (or_ok [icmp lo lo', icmp hi hi'] true (by simp)) rfl ?_
    rfl
theorem nanArc (x : Int) : Pure Tryz.prog 79 [.n .i64 x] (.b false) := by
  refine pure_of_wp of79 (Nat.le_of_ble_eq_true rfl) ?_
  exact endV (e := .b (x != x)) rfl (by simp)
theorem cmpArc (a b : Int) : Pure Tryz.prog 54 [.n .i64 a, .n .i64 b] (.n .i64 (icmp a b)) := by
  refine pure_of_wp of54 (Nat.le_of_ble_eq_true rfl) ?_
  refine CallK.mk _ (nanArc a) rfl ?_
  refine CallK.mk _ (nanArc b) rfl ?_
  refine DecK.ff ?_
  refine DecK.ff ?_
  refine DecK.dec (fun h => ?_) (fun h => ?_)
  · rw [icmp_lt h]; rfl
  refine DecK.dec (fun h => ?_) (fun h' => ?_)
  · rw [icmp_gt h]; rfl
  · rw [icmp_eq (by omega)]; rfl
theorem orderArc (lo hi : Int) (u : Bool) (lo' hi' : Int) (u' : Bool) : Pure Tryz.prog 30 [bdV lo hi u, bdV lo' hi' u'] (.n .i64 (ordB lo hi u lo' hi' u')) := by
  refine pure_of_wp of30 (Nat.le_of_ble_eq_true rfl) ?_
  cases u <;> cases u'
  · refine DecK.no rfl ?_
    refine CallK.mk _ (cmpArc lo lo') rfl ?_
    refine CallK.mk _ (cmpArc hi hi') rfl ?_
    refine CallK.mk _ (or_ok [icmp lo lo', icmp hi hi'] true (by simp)) rfl ?_
    rfl
  · refine DecK.yes rfl ?_
    refine DecK.tt ?_
    rfl
  · refine DecK.yes rfl ?_
    refine DecK.ff ?_
    rfl
  · refine DecK.no rfl ?_
    refine CallK.mk _ (cmpArc lo lo') rfl ?_
    refine CallK.mk _ (cmpArc hi hi') rfl ?_
    refine CallK.mk _ (or_ok [icmp lo lo', icmp hi hi'] true (by simp)) rfl ?_
    rfl
theorem nanQuanta (x : Int) : Pure Tryz.prog 80 [.n .i64 x] (.b false) := by
  refine pure_of_wp of80 (Nat.le_of_ble_eq_true rfl) ?_
  exact endV (e := .b (x != x)) rfl (by simp)
theorem cmpQuanta (a b : Int) : Pure Tryz.prog 55 [.n .i64 a, .n .i64 b] (.n .i64 (icmp a b)) := by
  refine pure_of_wp of55 (Nat.le_of_ble_eq_true rfl) ?_
  refine CallK.mk _ (nanQuanta a) rfl ?_
  refine CallK.mk _ (nanQuanta b) rfl ?_
  refine DecK.ff ?_
  refine DecK.ff ?_
  refine DecK.dec (fun h => ?_) (fun h => ?_)
  · rw [icmp_lt h]; rfl
  refine DecK.dec (fun h => ?_) (fun h' => ?_)
  · rw [icmp_gt h]; rfl
  · rw [icmp_eq (by omega)]; rfl
theorem orderQuanta (lo hi : Int) (u : Bool) (lo' hi' : Int) (u' : Bool) : Pure Tryz.prog 31 [bdV lo hi u, bdV lo' hi' u'] (.n .i64 (ordB lo hi u lo' hi' u')) := by
  refine pure_of_wp of31 (Nat.le_of_ble_eq_true rfl) ?_
  cases u <;> cases u'
  · refine DecK.no rfl ?_
    refine CallK.mk _ (cmpQuanta lo lo') rfl ?_
    refine CallK.mk _ (cmpQuanta hi hi') rfl ?_
    refine CallK.mk _ (or_ok [icmp lo lo', icmp hi hi'] true (by simp)) rfl ?_
    rfl
  · refine DecK.yes rfl ?_
    refine DecK.tt ?_
    rfl
  · refine DecK.yes rfl ?_
    refine DecK.ff ?_
    rfl
  · refine DecK.no rfl ?_
    refine CallK.mk _ (cmpQuanta lo lo') rfl ?_
    refine CallK.mk _ (cmpQuanta hi hi') rfl ?_
    refine CallK.mk _ (or_ok [icmp lo lo', icmp hi hi'] true (by simp)) rfl ?_
    rfl
/-- The order of two alerts. -/
def alCmp (i k o t0 t1 : Int) (tu : Bool) (r0 r1 : Int) (ru : Bool) (d0 d1 : Int) (du : Bool) (q0 q1 : Int) (qu : Bool) (f : Int)
    (i' k' o' t0' t1' : Int) (tu' : Bool) (r0' r1' : Int) (ru' : Bool) (d0' d1' : Int) (du' : Bool) (q0' q1' : Int) (qu' : Bool) (f' : Int) : Int :=
  or0 [icmp i i', icmp k k', icmp o o', icmp f f', ordB t0 t1 tu t0' t1' tu', ordB r0 r1 ru r0' r1' ru', ordB d0 d1 du d0' d1' du', ordB q0 q1 qu q0' q1' qu']
theorem alertCmp_ok (i k o t0 t1 : Int) (tu : Bool) (r0 r1 : Int) (ru : Bool) (d0 d1 : Int) (du : Bool) (q0 q1 : Int) (qu : Bool) (f : Int)
    (i' k' o' t0' t1' : Int) (tu' : Bool) (r0' r1' : Int) (ru' : Bool) (d0' d1' : Int) (du' : Bool) (q0' q1' : Int) (qu' : Bool) (f' : Int) :
    Pure Tryz.prog 10 [.agg (alC i k o t0 t1 tu r0 r1 ru d0 d1 du q0 q1 qu f), .agg (alC i' k' o' t0' t1' tu' r0' r1' ru' d0' d1' du' q0' q1' qu' f')]
      (.n .i64 (alCmp i k o t0 t1 tu r0 r1 ru d0 d1 du q0 q1 qu f i' k' o' t0' t1' tu' r0' r1' ru' d0' d1' du' q0' q1' qu' f')) := by
  refine pure_of_wp of10 (Nat.le_of_ble_eq_true rfl) ?_
  refine CallK.mk _ (cmpInt i i') rfl ?_
  refine CallK.mk _ (cmpInt k k') rfl ?_
  refine CallK.mk _ (cmpInt o o') rfl ?_
  refine CallK.mk _ (cmpInt f f') rfl ?_
  refine CallK.mk _ (orderTick t0 t1 tu t0' t1' tu') rfl ?_
  refine CallK.mk _ (orderArc r0 r1 ru r0' r1' ru') rfl ?_
  refine CallK.mk _ (orderArc d0 d1 du d0' d1' du') rfl ?_
  refine CallK.mk _ (orderQuanta q0 q1 qu q0' q1' qu') rfl ?_
  refine CallK.mk _ (or_ok [icmp i i', icmp k k', icmp o o', icmp f f', ordB t0 t1 tu t0' t1' tu', ordB r0 r1 ru r0' r1' ru', ordB d0 d1 du d0' d1' du', ordB q0 q1 qu q0' q1' qu'] true (by simp)) rfl ?_
  rfl
def b01 (b : Bool) : Int := if b then 1 else 0
theorem b01_ok (b : Bool) : Pure Tryz.prog 32 [.b b] (.n .i64 (b01 b)) := by
  refine pure_of_wp of32 (Nat.le_of_ble_eq_true rfl) ?_
  cases b
  · refine DecK.ff ?_
    rfl
  · refine DecK.tt ?_
    rfl
def alKey (i k o t0 t1 : Int) (tu : Bool) (r0 r1 : Int) (ru : Bool) (d0 d1 : Int) (du : Bool) (q0 q1 : Int) (qu : Bool) (f : Int) : List Int :=
  [i, k, o, f, b01 tu, t0, t1, b01 ru, r0, r1, b01 du, d0, d1, b01 qu, q0, q1]
set_option maxHeartbeats 4000000 in
theorem key_ok (i k o t0 t1 : Int) (tu : Bool) (r0 r1 : Int) (ru : Bool) (d0 d1 : Int) (du : Bool) (q0 q1 : Int) (qu : Bool) (f : Int) :
    Pure Tryz.prog 12 [.agg (alC i k o t0 t1 tu r0 r1 ru d0 d1 du q0 q1 qu f)] (.sl 16 ((alKey i k o t0 t1 tu r0 r1 ru d0 d1 du q0 q1 qu f).flatMap ni) true) := by
  refine pure_of_wp of12 (Nat.le_of_ble_eq_true rfl) ?_
  refine CallK.mk _ (b01_ok tu) rfl ?_
  refine CallK.mk _ (b01_ok ru) rfl ?_
  refine CallK.mk _ (b01_ok du) rfl ?_
  refine CallK.mk _ (b01_ok qu) rfl ?_
  exact endV rfl rfl
def lexC : List Int → List Int → Int
  | [], [] => 0
  | [], _ :: _ => -1
  | _ :: _, [] => 1
  | a :: l, b :: l' => if icmp a b ≠ 0 then icmp a b else lexC l l'
theorem lex_ok (a b : List Int) (t t' : Bool) (ha : a.length ≤ 1000000) (hb : b.length ≤ 1000000) :
    Pure Tryz.prog 11 [.sl a.length (a.flatMap ni) t, .sl b.length (b.flatMap ni) t'] (.n .i64 (lexC a b)) := by
  refine pure_of_wp of11 (Nat.le_of_ble_eq_true rfl) ?_
  refine loop_ind (fun (i : Int) => ⟨[(0, .v (.sl a.length (a.flatMap ni) t)), (1, .v (.sl b.length (b.flatMap ni) t')), (9, .v (.sl a.length (a.flatMap ni) t)), (10, .v (.n .i64 a.length)), (11, .v (.n .i64 i))], []⟩) (fun i => a.length - i.toNat)
    (fun i => 0 ≤ i ∧ i ≤ a.length ∧ i ≤ b.length ∧ lexC (a.drop i.toNat) (b.drop i.toNat) = lexC a b) 0 (by simp) ?_
  intro iz ⟨h1, h2, h4, h3⟩ ih
  obtain ⟨i, rfl⟩ : ∃ i : Nat, iz = i := ⟨iz.toNat, by omega⟩
  simp only [Int.toNat_natCast] at h3
  refine DecK.dec (fun h => ?_) (fun h => ?_)
  · obtain ⟨x, hx, ex⟩ := drop_at (l := a) (k := i) (by omega)
    refine OptK.mk _ (ria i rfl (by omega)) ?_
    refine OptK.mk _ (rld1 (g := fun x => .n .i64 x) hx) ?_
    refine DecK.dec (fun g => ?_) (fun g => ?_)
    · rw [ex, show b.drop i = [] from List.drop_eq_nil_of_le (by omega), lexC] at h3
      rw [← h3]
      rfl
    obtain ⟨y, hy, ey⟩ := drop_at (l := b) (k := i) (by omega)
    refine OptK.mk _ (ria i rfl (by omega)) ?_
    refine OptK.mk _ (rld1 (g := fun x => .n .i64 x) hy) ?_
    refine CallK.mk _ (cmpInt x y) rfl ?_
    rw [ex, ey, lexC] at h3
    refine DecK.bne (fun h0 => ?_) (fun h0 => ?_)
    · rw [if_pos h0] at h3
      rw [← h3]
      rfl
    · have w : IntKind.i64.wrap ((i : Int) + 1) = ((i + 1 : Nat) : Int) := by simp (discharger := omega) only [w64, wu64, wu8, w32, wu32, tdivC, tmodC]; omega
      refine ih _ ⟨?_, ?_, ?_, ?_⟩ ?_
      all_goals simp only [w, Int.toNat_natCast]
      · omega
      · omega
      · omega
      · rw [if_neg (by simpa using h0)] at h3; exact h3
      · omega
  · rw [show a.drop i = [] from List.drop_eq_nil_of_le (by omega)] at h3
    refine DecK.dec (fun g => ?_) (fun g => ?_)
    · obtain ⟨y, hy, ey⟩ := drop_at (l := b) (k := i) (by omega)
      rw [ey, lexC] at h3
      rw [← h3]
      rfl
    · rw [show b.drop i = [] from List.drop_eq_nil_of_le (by omega), lexC] at h3
      rw [← h3]
      rfl
theorem ord_lex (lo hi : Int) (u : Bool) (lo' hi' : Int) (u' : Bool) (l l' : List Int) :
    lexC (b01 u :: lo :: hi :: l) (b01 u' :: lo' :: hi' :: l') = if ordB lo hi u lo' hi' u' ≠ 0 then ordB lo hi u lo' hi' u' else lexC l l' := by
  cases u <;> cases u' <;> simp [lexC, ordB, b01, icmp, or0] <;> (repeat' split) <;> simp_all
/-- Both say the same. -/
theorem cmp_key (i k o t0 t1 : Int) (tu : Bool) (r0 r1 : Int) (ru : Bool) (d0 d1 : Int) (du : Bool) (q0 q1 : Int) (qu : Bool) (f : Int)
    (i' k' o' t0' t1' : Int) (tu' : Bool) (r0' r1' : Int) (ru' : Bool) (d0' d1' : Int) (du' : Bool) (q0' q1' : Int) (qu' : Bool) (f' : Int) :
    lexC (alKey i k o t0 t1 tu r0 r1 ru d0 d1 du q0 q1 qu f) (alKey i' k' o' t0' t1' tu' r0' r1' ru' d0' d1' du' q0' q1' qu' f') =
      alCmp i k o t0 t1 tu r0 r1 ru d0 d1 du q0 q1 qu f i' k' o' t0' t1' tu' r0' r1' ru' d0' d1' du' q0' q1' qu' f' := by
  rw [alKey, alKey, lexC, lexC, lexC, lexC, ord_lex, ord_lex, ord_lex, ord_lex, lexC]
  rfl
end Go.Proofs.YtljcbmnkjiogmaaGreatDoor.Sv

/- Alerts in packed form: the functions that pack. No condition. -/
import Derived.Test.YtljcbmnkjiogmaaDoorPa
namespace Go.Proofs.YtljcbmnkjiogmaaDoor.Sv
open Go Go.RowKit
set_option linter.unusedVariables false
set_option linter.unusedSimpArgs false
set_option maxRecDepth 100000
/-- live: [0, 1] -/
def L18_0 : SC := .seq (.seq (.reg [⟨some 5, none, .mv, [.tm 1]⟩, ⟨some 6, none, .po (.bin .geq), [.tm 5, .cn (.n .u64 128)]⟩] [0, 1, 6]) (.cond (.tm 6) .skip (.exit 0))) (.seq (.block 1 (.reg [⟨some 9, none, .mv, [.tm 0]⟩, ⟨some 10, none, .mv, [.tm 1]⟩, ⟨some 11, none, .po (.toInt .u8), [.tm 10]⟩, ⟨some 12, none, .po (.bin .or), [.tm 11, .cn (.n .u8 128)]⟩, ⟨some 13, none, .bslO 1 [.n .u8 0] [(0, 1)], [.tm 12]⟩, ⟨some 14, none, .app 1 1, [.tm 9, .tm 13]⟩, ⟨some 0, none, .mv, [.tm 14]⟩] [0, 1])) (.reg [⟨some 7, none, .mv, [.tm 1]⟩, ⟨some 8, none, .po (.bin .shr), [.tm 7, .cn (.n .u64 7)]⟩, ⟨some 1, none, .mv, [.tm 8]⟩] [0, 1]))
/-- spyglass/alert.number -/
def F18 : Fn1 := ⟨20, .seq (.reg [⟨some 4, none, .adopt 1, []⟩] [0, 1]) (.seq (.block 0 (.loop [0, 1] L18_0)) (.seq (.reg [⟨some 15, none, .mv, [.tm 0]⟩, ⟨some 16, none, .mv, [.tm 1]⟩, ⟨some 17, none, .po (.toInt .u8), [.tm 16]⟩, ⟨some 18, none, .bslO 1 [.n .u8 0] [(0, 1)], [.tm 17]⟩, ⟨some 19, none, .app 1 1, [.tm 15, .tm 18]⟩, ⟨some 4, none, .mv, [.tm 19]⟩] [4]) .ret)), [.tm 4]⟩
theorem of18 : Fn1.of Tryd.prog 18 ⟨true, [], false⟩ [[0, 1], [0, 1], [0, 1, 6], [0, 1], [0, 1], [4]] = some F18 := by kernel_rfl
/-- spyglass/alert.ends(spyglass/api.Tick) -/
def F19 : Fn1 := ⟨26, .seq (.reg [⟨some 3, none, .box, [.tm 1]⟩, ⟨some 4, none, .mv, [.cn (.sl 0 [] true)]⟩] [0, 3]) (.seq (.seq (.reg [⟨some 5, none, .fa 2, [.tm 3]⟩, ⟨some 6, none, .ld false 1 false, [.tm 5]⟩] [0, 3, 6]) (.cond (.tm 6) (.seq (.reg [⟨some 7, none, .mv, [.tm 0]⟩, ⟨some 4, none, .mv, [.tm 7]⟩] [4]) .ret) .skip)) (.seq (.dreg [⟨some 8, none, .mv, [.tm 0]⟩, ⟨some 9, none, .fa 0, [.tm 3]⟩, ⟨some 10, none, .ld false 1 false, [.tm 9]⟩, ⟨some 11, none, .po (.bin .shl), [.tm 10, .cn (.n .u64 1)]⟩, ⟨some 12, none, .po (.toInt .u64), [.tm 11]⟩, ⟨some 13, none, .fa 0, [.tm 3]⟩, ⟨some 14, none, .ld false 1 false, [.tm 13]⟩, ⟨some 15, none, .po (.bin .shr), [.tm 14, .cn (.n .u64 63)]⟩, ⟨some 16, none, .po (.toInt .u64), [.tm 15]⟩, ⟨some 17, none, .po (.bin .xor), [.tm 12, .tm 16]⟩, ⟨some 18, none, .callV 18, [.tm 8, .tm 17]⟩, ⟨some 19, none, .fa 1, [.tm 3]⟩, ⟨some 20, none, .ld false 1 false, [.tm 19]⟩, ⟨some 21, none, .fa 0, [.tm 3]⟩, ⟨some 22, none, .ld false 1 false, [.tm 21]⟩, ⟨some 23, none, .po (.bin .sub), [.tm 20, .tm 22]⟩, ⟨some 24, none, .po (.toInt .u64), [.tm 23]⟩, ⟨some 25, none, .callV 18, [.tm 18, .tm 24]⟩, ⟨some 4, none, .mv, [.tm 25]⟩] [(10, 11), (10, 12), (10, 13), (10, 14), (10, 15), (10, 16)] [4]) .ret)), [.tm 4]⟩
theorem of19 : Fn1.of Tryd.prog 19 ⟨false, [1000018], false⟩ [[0, 3], [0, 3, 6], [4], [4]] = some F19 := by kernel_rfl
/-- spyglass/alert.ends(spyglass/api.Arc) -/
def F21 : Fn1 := ⟨26, .seq (.reg [⟨some 3, none, .box, [.tm 1]⟩, ⟨some 4, none, .mv, [.cn (.sl 0 [] true)]⟩] [0, 3]) (.seq (.seq (.reg [⟨some 5, none, .fa 2, [.tm 3]⟩, ⟨some 6, none, .ld false 1 false, [.tm 5]⟩] [0, 3, 6]) (.cond (.tm 6) (.seq (.reg [⟨some 7, none, .mv, [.tm 0]⟩, ⟨some 4, none, .mv, [.tm 7]⟩] [4]) .ret) .skip)) (.seq (.dreg [⟨some 8, none, .mv, [.tm 0]⟩, ⟨some 9, none, .fa 0, [.tm 3]⟩, ⟨some 10, none, .ld false 1 false, [.tm 9]⟩, ⟨some 11, none, .po (.bin .shl), [.tm 10, .cn (.n .u64 1)]⟩, ⟨some 12, none, .po (.toInt .u64), [.tm 11]⟩, ⟨some 13, none, .fa 0, [.tm 3]⟩, ⟨some 14, none, .ld false 1 false, [.tm 13]⟩, ⟨some 15, none, .po (.bin .shr), [.tm 14, .cn (.n .u64 63)]⟩, ⟨some 16, none, .po (.toInt .u64), [.tm 15]⟩, ⟨some 17, none, .po (.bin .xor), [.tm 12, .tm 16]⟩, ⟨some 18, none, .callV 18, [.tm 8, .tm 17]⟩, ⟨some 19, none, .fa 1, [.tm 3]⟩, ⟨some 20, none, .ld false 1 false, [.tm 19]⟩, ⟨some 21, none, .fa 0, [.tm 3]⟩, ⟨some 22, none, .ld false 1 false, [.tm 21]⟩, ⟨some 23, none, .po (.bin .sub), [.tm 20, .tm 22]⟩, ⟨some 24, none, .po (.toInt .u64), [.tm 23]⟩, ⟨some 25, none, .callV 18, [.tm 18, .tm 24]⟩, ⟨some 4, none, .mv, [.tm 25]⟩] [(10, 11), (10, 12), (10, 13), (10, 14), (10, 15), (10, 16)] [4]) .ret)), [.tm 4]⟩
theorem of21 : Fn1.of Tryd.prog 21 ⟨false, [1000018], false⟩ [[0, 3], [0, 3, 6], [4], [4]] = some F21 := by kernel_rfl
/-- spyglass/alert.ends(spyglass/api.Quanta) -/
def F20 : Fn1 := ⟨26, .seq (.reg [⟨some 3, none, .box, [.tm 1]⟩, ⟨some 4, none, .mv, [.cn (.sl 0 [] true)]⟩] [0, 3]) (.seq (.seq (.reg [⟨some 5, none, .fa 2, [.tm 3]⟩, ⟨some 6, none, .ld false 1 false, [.tm 5]⟩] [0, 3, 6]) (.cond (.tm 6) (.seq (.reg [⟨some 7, none, .mv, [.tm 0]⟩, ⟨some 4, none, .mv, [.tm 7]⟩] [4]) .ret) .skip)) (.seq (.dreg [⟨some 8, none, .mv, [.tm 0]⟩, ⟨some 9, none, .fa 0, [.tm 3]⟩, ⟨some 10, none, .ld false 1 false, [.tm 9]⟩, ⟨some 11, none, .po (.bin .shl), [.tm 10, .cn (.n .u64 1)]⟩, ⟨some 12, none, .po (.toInt .u64), [.tm 11]⟩, ⟨some 13, none, .fa 0, [.tm 3]⟩, ⟨some 14, none, .ld false 1 false, [.tm 13]⟩, ⟨some 15, none, .po (.bin .shr), [.tm 14, .cn (.n .u64 63)]⟩, ⟨some 16, none, .po (.toInt .u64), [.tm 15]⟩, ⟨some 17, none, .po (.bin .xor), [.tm 12, .tm 16]⟩, ⟨some 18, none, .callV 18, [.tm 8, .tm 17]⟩, ⟨some 19, none, .fa 1, [.tm 3]⟩, ⟨some 20, none, .ld false 1 false, [.tm 19]⟩, ⟨some 21, none, .fa 0, [.tm 3]⟩, ⟨some 22, none, .ld false 1 false, [.tm 21]⟩, ⟨some 23, none, .po (.bin .sub), [.tm 20, .tm 22]⟩, ⟨some 24, none, .po (.toInt .u64), [.tm 23]⟩, ⟨some 25, none, .callV 18, [.tm 18, .tm 24]⟩, ⟨some 4, none, .mv, [.tm 25]⟩] [(10, 11), (10, 12), (10, 13), (10, 14), (10, 15), (10, 16)] [4]) .ret)), [.tm 4]⟩
theorem of20 : Fn1.of Tryd.prog 20 ⟨false, [1000018], false⟩ [[0, 3], [0, 3, 6], [4], [4]] = some F20 := by kernel_rfl
/-- live: [0, 3] -/
def L28_0 : SC := .seq (.seq (.reg [⟨some 10, none, .mv, [.tm 0]⟩, ⟨some 11, none, .po (.bin .gtr), [.tm 10, .cn (.n .u64 0)]⟩] [0, 3, 11]) (.cond (.tm 11) .skip (.exit 0))) (.seq (.block 1 (.seq (.reg [⟨some 14, none, .mv, [.tm 3]⟩, ⟨some 15, none, .mv, [.tm 3]⟩, ⟨some 16, none, .len false, [.tm 15]⟩, ⟨some 17, none, .po (.bin .sub), [.tm 16, .cn (.n .i64 1)]⟩, ⟨some 18, none, .ia none 1, [.tm 14, .tm 17]⟩, ⟨some 19, none, .ld false 1 true, [.tm 18]⟩, ⟨some 20, none, .po (.bin .add), [.tm 19, .cn (.n .u8 128)]⟩, ⟨some 21, none, .ia none 1, [.tm 14, .tm 17]⟩, ⟨none, none, .st 1, [.tm 21, .tm 20]⟩] [0, 3]) (.reg [⟨some 22, none, .mv, [.tm 3]⟩, ⟨some 23, none, .mv, [.tm 0]⟩, ⟨some 24, none, .po (.bin .rem), [.tm 23, .cn (.n .u64 128)]⟩, ⟨some 25, none, .po (.toInt .u8), [.tm 24]⟩, ⟨some 26, none, .bslO 1 [.n .u8 0] [(0, 1)], [.tm 25]⟩, ⟨some 27, none, .app 1 1, [.tm 22, .tm 26]⟩, ⟨some 3, none, .mv, [.tm 27]⟩] [0, 3]))) (.reg [⟨some 12, none, .mv, [.tm 0]⟩, ⟨some 13, none, .po (.bin .quo), [.tm 12, .cn (.n .u64 128)]⟩, ⟨some 0, none, .mv, [.tm 13]⟩] [0, 3]))
/-- spyglass/spyref1.seven -/
def F28 : Fn1 := ⟨29, .seq (.reg [⟨some 2, none, .adopt 1, []⟩] [0]) (.seq (.reg [⟨some 4, none, .mv, [.tm 0]⟩, ⟨some 5, none, .po (.bin .rem), [.tm 4, .cn (.n .u64 128)]⟩, ⟨some 6, none, .po (.toInt .u8), [.tm 5]⟩, ⟨some 7, none, .bslO 1 [.n .u8 0] [(0, 1)], [.tm 6]⟩, ⟨some 3, none, .mv, [.tm 7]⟩] [0, 3]) (.seq (.seq (.reg [⟨some 8, none, .mv, [.tm 0]⟩, ⟨some 9, none, .po (.bin .quo), [.tm 8, .cn (.n .u64 128)]⟩, ⟨some 0, none, .mv, [.tm 9]⟩] [0, 3]) (.block 0 (.loop [0, 3] L28_0))) (.seq (.reg [⟨some 28, none, .mv, [.tm 3]⟩, ⟨some 2, none, .mv, [.tm 28]⟩] [2]) .ret))), [.tm 2]⟩
theorem of28 : Fn1.of Tryd.prog 28 ⟨true, [], false⟩ [[0], [0, 3], [0, 3], [0, 3], [0, 3, 11], [0, 3], [0, 3], [0, 3], [2]] = some F28 := by kernel_rfl
/-- spyglass/spyref1.pair7(spyglass/api.Tick) -/
def F29 : Fn1 := ⟨26, .seq (.reg [⟨some 1, none, .box, [.tm 0]⟩, ⟨some 2, none, .adopt 1, []⟩] [1]) (.seq (.seq (.reg [⟨some 4, none, .fa 2, [.tm 1]⟩, ⟨some 5, none, .ld false 1 false, [.tm 4]⟩] [1, 5]) (.cond (.tm 5) (.seq (.reg [⟨some 2, none, .adopt 1, []⟩] [2]) .ret) .skip)) (.seq (.reg [⟨some 6, none, .fa 0, [.tm 1]⟩, ⟨some 7, none, .ld false 1 false, [.tm 6]⟩, ⟨some 8, none, .po (.bin .mul), [.cn (.n .i64 2), .tm 7]⟩, ⟨some 3, none, .mv, [.tm 8]⟩] [1, 3]) (.seq (.seq (.reg [⟨some 9, none, .fa 0, [.tm 1]⟩, ⟨some 10, none, .ld false 1 false, [.tm 9]⟩, ⟨some 11, none, .po (.bin .lss), [.tm 10, .cn (.n .i64 0)]⟩] [1, 3, 11]) (.cond (.tm 11) (.reg [⟨some 12, none, .mv, [.tm 3]⟩, ⟨some 13, none, .po (.un .neg), [.tm 12]⟩, ⟨some 14, none, .po (.bin .sub), [.tm 13, .cn (.n .i64 1)]⟩, ⟨some 3, none, .mv, [.tm 14]⟩] [1, 3]) .skip)) (.seq (.dreg [⟨some 15, none, .mv, [.tm 3]⟩, ⟨some 16, none, .po (.toInt .u64), [.tm 15]⟩, ⟨some 17, none, .callN 28, [.tm 16]⟩, ⟨some 18, none, .fa 1, [.tm 1]⟩, ⟨some 19, none, .ld false 1 false, [.tm 18]⟩, ⟨some 20, none, .fa 0, [.tm 1]⟩, ⟨some 21, none, .ld false 1 false, [.tm 20]⟩, ⟨some 22, none, .po (.bin .sub), [.tm 19, .tm 21]⟩, ⟨some 23, none, .po (.toInt .u64), [.tm 22]⟩, ⟨some 24, none, .callN 28, [.tm 23]⟩, ⟨some 25, none, .app 1 1, [.tm 17, .tm 24]⟩, ⟨some 2, none, .mv, [.tm 25]⟩] [] [2]) .ret)))), [.tm 2]⟩
theorem of29 : Fn1.of Tryd.prog 29 ⟨true, [2000028], true⟩ [[1], [1, 5], [2], [1, 3], [1, 3, 11], [1, 3], [2]] = some F29 := by kernel_rfl
/-- spyglass/spyref1.pair7(spyglass/api.Arc) -/
def F30 : Fn1 := ⟨26, .seq (.reg [⟨some 1, none, .box, [.tm 0]⟩, ⟨some 2, none, .adopt 1, []⟩] [1]) (.seq (.seq (.reg [⟨some 4, none, .fa 2, [.tm 1]⟩, ⟨some 5, none, .ld false 1 false, [.tm 4]⟩] [1, 5]) (.cond (.tm 5) (.seq (.reg [⟨some 2, none, .adopt 1, []⟩] [2]) .ret) .skip)) (.seq (.reg [⟨some 6, none, .fa 0, [.tm 1]⟩, ⟨some 7, none, .ld false 1 false, [.tm 6]⟩, ⟨some 8, none, .po (.bin .mul), [.cn (.n .i64 2), .tm 7]⟩, ⟨some 3, none, .mv, [.tm 8]⟩] [1, 3]) (.seq (.seq (.reg [⟨some 9, none, .fa 0, [.tm 1]⟩, ⟨some 10, none, .ld false 1 false, [.tm 9]⟩, ⟨some 11, none, .po (.bin .lss), [.tm 10, .cn (.n .i64 0)]⟩] [1, 3, 11]) (.cond (.tm 11) (.reg [⟨some 12, none, .mv, [.tm 3]⟩, ⟨some 13, none, .po (.un .neg), [.tm 12]⟩, ⟨some 14, none, .po (.bin .sub), [.tm 13, .cn (.n .i64 1)]⟩, ⟨some 3, none, .mv, [.tm 14]⟩] [1, 3]) .skip)) (.seq (.dreg [⟨some 15, none, .mv, [.tm 3]⟩, ⟨some 16, none, .po (.toInt .u64), [.tm 15]⟩, ⟨some 17, none, .callN 28, [.tm 16]⟩, ⟨some 18, none, .fa 1, [.tm 1]⟩, ⟨some 19, none, .ld false 1 false, [.tm 18]⟩, ⟨some 20, none, .fa 0, [.tm 1]⟩, ⟨some 21, none, .ld false 1 false, [.tm 20]⟩, ⟨some 22, none, .po (.bin .sub), [.tm 19, .tm 21]⟩, ⟨some 23, none, .po (.toInt .u64), [.tm 22]⟩, ⟨some 24, none, .callN 28, [.tm 23]⟩, ⟨some 25, none, .app 1 1, [.tm 17, .tm 24]⟩, ⟨some 2, none, .mv, [.tm 25]⟩] [] [2]) .ret)))), [.tm 2]⟩
theorem of30 : Fn1.of Tryd.prog 30 ⟨true, [2000028], true⟩ [[1], [1, 5], [2], [1, 3], [1, 3, 11], [1, 3], [2]] = some F30 := by kernel_rfl
/-- spyglass/spyref1.pair7(spyglass/api.Quanta) -/
def F31 : Fn1 := ⟨26, .seq (.reg [⟨some 1, none, .box, [.tm 0]⟩, ⟨some 2, none, .adopt 1, []⟩] [1]) (.seq (.seq (.reg [⟨some 4, none, .fa 2, [.tm 1]⟩, ⟨some 5, none, .ld false 1 false, [.tm 4]⟩] [1, 5]) (.cond (.tm 5) (.seq (.reg [⟨some 2, none, .adopt 1, []⟩] [2]) .ret) .skip)) (.seq (.reg [⟨some 6, none, .fa 0, [.tm 1]⟩, ⟨some 7, none, .ld false 1 false, [.tm 6]⟩, ⟨some 8, none, .po (.bin .mul), [.cn (.n .i64 2), .tm 7]⟩, ⟨some 3, none, .mv, [.tm 8]⟩] [1, 3]) (.seq (.seq (.reg [⟨some 9, none, .fa 0, [.tm 1]⟩, ⟨some 10, none, .ld false 1 false, [.tm 9]⟩, ⟨some 11, none, .po (.bin .lss), [.tm 10, .cn (.n .i64 0)]⟩] [1, 3, 11]) (.cond (.tm 11) (.reg [⟨some 12, none, .mv, [.tm 3]⟩, ⟨some 13, none, .po (.un .neg), [.tm 12]⟩, ⟨some 14, none, .po (.bin .sub), [.tm 13, .cn (.n .i64 1)]⟩, ⟨some 3, none, .mv, [.tm 14]⟩] [1, 3]) .skip)) (.seq (.dreg [⟨some 15, none, .mv, [.tm 3]⟩, ⟨some 16, none, .po (.toInt .u64), [.tm 15]⟩, ⟨some 17, none, .callN 28, [.tm 16]⟩, ⟨some 18, none, .fa 1, [.tm 1]⟩, ⟨some 19, none, .ld false 1 false, [.tm 18]⟩, ⟨some 20, none, .fa 0, [.tm 1]⟩, ⟨some 21, none, .ld false 1 false, [.tm 20]⟩, ⟨some 22, none, .po (.bin .sub), [.tm 19, .tm 21]⟩, ⟨some 23, none, .po (.toInt .u64), [.tm 22]⟩, ⟨some 24, none, .callN 28, [.tm 23]⟩, ⟨some 25, none, .app 1 1, [.tm 17, .tm 24]⟩, ⟨some 2, none, .mv, [.tm 25]⟩] [] [2]) .ret)))), [.tm 2]⟩
theorem of31 : Fn1.of Tryd.prog 31 ⟨true, [2000028], true⟩ [[1], [1, 5], [2], [1, 3], [1, 3, 11], [1, 3], [2]] = some F31 := by kernel_rfl
/-- spyglass/spyref1.Four -/
def F32 : Fn1 := ⟨18, .seq (.reg [⟨some 2, none, .mv, [.cn (.sl 0 [] true)]⟩] [0]) (.seq (.reg [⟨some 3, none, .mv, [.tm 0]⟩, ⟨some 4, none, .po (.bin .quo), [.tm 3, .cn (.n .u32 16777216)]⟩, ⟨some 5, none, .po (.toInt .u8), [.tm 4]⟩, ⟨some 6, none, .mv, [.tm 0]⟩, ⟨some 7, none, .po (.bin .quo), [.tm 6, .cn (.n .u32 65536)]⟩, ⟨some 8, none, .po (.bin .rem), [.tm 7, .cn (.n .u32 256)]⟩, ⟨some 9, none, .po (.toInt .u8), [.tm 8]⟩, ⟨some 10, none, .mv, [.tm 0]⟩, ⟨some 11, none, .po (.bin .quo), [.tm 10, .cn (.n .u32 256)]⟩, ⟨some 12, none, .po (.bin .rem), [.tm 11, .cn (.n .u32 256)]⟩, ⟨some 13, none, .po (.toInt .u8), [.tm 12]⟩, ⟨some 14, none, .mv, [.tm 0]⟩, ⟨some 15, none, .po (.bin .rem), [.tm 14, .cn (.n .u32 256)]⟩, ⟨some 16, none, .po (.toInt .u8), [.tm 15]⟩, ⟨some 17, none, .po (.bsl 4 [.n .u8 0] [(0, 1), (1, 1), (2, 1), (3, 1)]), [.tm 5, .tm 9, .tm 13, .tm 16]⟩, ⟨some 2, none, .mv, [.tm 17]⟩] [2]) .ret), [.tm 2]⟩
theorem of32 : Fn1.of Tryd.prog 32 ⟨false, [], false⟩ [[0], [2]] = some F32 := by kernel_rfl
/-- live: [3, 5, 9, 10, 11, 15] -/
def L8_0 : SC := .seq (.reg [⟨some 16, none, .po (.bin .lss), [.tm 15, .cn (.n .i64 8)]⟩] [3, 5, 9, 10, 11, 15, 16]) (.seq (.cond (.tm 16) .skip (.exit 2)) (.seq (.block 3 (.seq (.reg [⟨some 17, none, .mv, [.tm 15]⟩, ⟨some 6, none, .mv, [.tm 17]⟩] [3, 5, 6, 9, 10, 11, 15]) (.seq (.dreg [⟨some 18, none, .mv, [.tm 3]⟩, ⟨some 19, none, .po (.bin .rem), [.tm 18, .cn (.n .u32 2)]⟩, ⟨some 20, none, .mv, [.tm 5]⟩, ⟨some 21, none, .mv, [.tm 6]⟩, ⟨some 22, none, .po (.bin .shr), [.tm 20, .tm 21]⟩, ⟨some 23, none, .po (.bin .rem), [.tm 22, .cn (.n .u8 2)]⟩, ⟨some 24, none, .po (.toInt .u32), [.tm 23]⟩, ⟨some 7, none, .mv, [.tm 19]⟩, ⟨some 8, none, .mv, [.tm 24]⟩] [] [3, 5, 7, 8, 9, 10, 11, 15]) (.seq (.reg [⟨some 25, none, .mv, [.tm 3]⟩, ⟨some 26, none, .po (.bin .quo), [.tm 25, .cn (.n .u32 2)]⟩, ⟨some 3, none, .mv, [.tm 26]⟩] [3, 5, 7, 8, 9, 10, 11, 15]) (.seq (.reg [⟨some 27, none, .mv, [.tm 7]⟩, ⟨some 28, none, .mv, [.tm 8]⟩, ⟨some 29, none, .po (.bin .neq), [.tm 27, .tm 28]⟩] [3, 5, 9, 10, 11, 15, 29]) (.cond (.tm 29) (.reg [⟨some 30, none, .mv, [.tm 3]⟩, ⟨some 31, none, .po (.bin .xor), [.tm 30, .cn (.n .u32 3988292384)]⟩, ⟨some 3, none, .mv, [.tm 31]⟩] [3, 5, 9, 10, 11, 15]) .skip)))))) (.reg [⟨some 32, none, .po (.bin .add), [.tm 15, .cn (.n .i64 1)]⟩, ⟨some 15, none, .mv, [.tm 32]⟩] [3, 5, 9, 10, 11, 15])))
/-- live: [3, 9, 10, 11] -/
def L8_1 : SC := .seq (.reg [⟨some 12, none, .po (.bin .lss), [.tm 11, .tm 10]⟩] [3, 9, 10, 11, 12]) (.seq (.cond (.tm 12) .skip (.exit 0)) (.seq (.block 1 (.seq (.reg [⟨some 13, none, .ia none 1, [.tm 9, .tm 11]⟩, ⟨some 14, none, .ld false 1 true, [.tm 13]⟩, ⟨some 5, none, .mv, [.tm 14]⟩] [3, 5, 9, 10, 11]) (.seq (.reg [⟨some 15, none, .mv, [.cn (.n .i64 0)]⟩] [3, 5, 9, 10, 11, 15]) (.block 2 (.loop [3, 5, 9, 10, 11, 15] L8_0))))) (.reg [⟨some 33, none, .po (.bin .add), [.tm 11, .cn (.n .i64 1)]⟩, ⟨some 11, none, .mv, [.tm 33]⟩] [3, 9, 10, 11])))
/-- spyglass/spyref1.Crc -/
def F8 : Fn1 := ⟨36, .seq (.reg [⟨some 2, none, .mv, [.cn (.n .u32 0)]⟩] [0]) (.seq (.reg [⟨some 3, none, .mv, [.cn (.n .u32 4294967295)]⟩] [0, 3]) (.seq (.seq (.reg [⟨some 9, none, .mv, [.tm 0]⟩, ⟨some 10, none, .len false, [.tm 9]⟩, ⟨some 11, none, .mv, [.cn (.n .i64 0)]⟩] [3, 9, 10, 11]) (.block 0 (.loop [3, 9, 10, 11] L8_1))) (.seq (.reg [⟨some 34, none, .mv, [.tm 3]⟩, ⟨some 35, none, .po (.bin .sub), [.cn (.n .u32 4294967295), .tm 34]⟩, ⟨some 2, none, .mv, [.tm 35]⟩] [2]) .ret))), [.tm 2]⟩
theorem of8 : Fn1.of Tryd.prog 8 ⟨false, [], false⟩ [[0], [0, 3], [3, 9, 10, 11], [3, 9, 10, 11], [3, 9, 10, 11, 12], [3, 5, 9, 10, 11], [3, 5, 9, 10, 11, 15], [3, 5, 9, 10, 11, 15], [3, 5, 9, 10, 11, 15, 16], [3, 5, 6, 9, 10, 11, 15], [3, 5, 7, 8, 9, 10, 11, 15], [3, 5, 7, 8, 9, 10, 11, 15], [3, 5, 9, 10, 11, 15, 29], [3, 5, 9, 10, 11, 15], [3, 5, 9, 10, 11, 15], [3, 9, 10, 11], [2]] = some F8 := by kernel_rfl
/-- live: [0, 1, 12, 13] -/
def L10_0 : SC := .seq (.reg [⟨some 14, none, .po (.bin .lss), [.tm 13, .tm 12]⟩] [0, 1, 12, 13, 14]) (.seq (.cond (.tm 14) .skip (.exit 0)) (.seq (.block 1 (.seq (.reg [⟨some 15, none, .mv, [.tm 13]⟩, ⟨some 5, none, .mv, [.tm 15]⟩] [0, 1, 5, 12, 13]) (.seq (.dreg [⟨some 16, none, .mv, [.tm 0]⟩, ⟨some 17, none, .mv, [.tm 5]⟩, ⟨some 18, none, .ia none 1, [.tm 16, .tm 17]⟩, ⟨some 19, none, .ld false 1 true, [.tm 18]⟩, ⟨some 20, none, .mv, [.tm 1]⟩, ⟨some 21, none, .mv, [.tm 5]⟩, ⟨some 22, none, .ia none 1, [.tm 20, .tm 21]⟩, ⟨some 23, none, .ld false 1 true, [.tm 22]⟩, ⟨some 24, none, .po (.bin .neq), [.tm 19, .tm 23]⟩] [] [0, 1, 12, 13, 24]) (.cond (.tm 24) (.seq (.reg [⟨some 4, none, .mv, [.cn (.b false)]⟩] [4]) .ret) .skip)))) (.reg [⟨some 25, none, .po (.bin .add), [.tm 13, .cn (.n .i64 1)]⟩, ⟨some 13, none, .mv, [.tm 25]⟩] [0, 1, 12, 13])))
/-- slices.Equal(()byte,byte) -/
def F10 : Fn1 := ⟨26, .seq (.reg [⟨some 4, none, .mv, [.cn (.b false)]⟩] [0, 1]) (.seq (.seq (.reg [⟨some 6, none, .mv, [.tm 0]⟩, ⟨some 7, none, .len false, [.tm 6]⟩, ⟨some 8, none, .mv, [.tm 1]⟩, ⟨some 9, none, .len false, [.tm 8]⟩, ⟨some 10, none, .po (.bin .neq), [.tm 7, .tm 9]⟩] [0, 1, 10]) (.cond (.tm 10) (.seq (.reg [⟨some 4, none, .mv, [.cn (.b false)]⟩] [4]) .ret) .skip)) (.seq (.seq (.reg [⟨some 11, none, .mv, [.tm 0]⟩, ⟨some 12, none, .len false, [.tm 11]⟩, ⟨some 13, none, .mv, [.cn (.n .i64 0)]⟩] [0, 1, 12, 13]) (.block 0 (.loop [0, 1, 12, 13] L10_0))) (.seq (.reg [⟨some 4, none, .mv, [.cn (.b true)]⟩] [4]) .ret))), [.tm 4]⟩
theorem of10 : Fn1.of Tryd.prog 10 ⟨false, [], false⟩ [[0, 1], [0, 1, 10], [4], [0, 1, 12, 13], [0, 1, 12, 13], [0, 1, 12, 13, 14], [0, 1, 5, 12, 13], [0, 1, 12, 13, 24], [4], [0, 1, 12, 13], [4]] = some F10 := by kernel_rfl
section
variable {α : Type} {f : α → List V} {z : Nat}
theorem own_appo {st : St} {s0 s1 s bytes : Nat} {l l' : List α} (hz : ∀ x, (f x).length = z) (ho : look st.objs s0 = some (l.flatMap f)) (ho' : look st.objs s1 = some (l'.flatMap f)) (h1 : (l'.flatMap f).all V.one = true) (hb : (l.length + l'.length) * bytes ≤ 2 ^ 47) :
    (SO.app z bytes).ef st (some s) [.own s0 z 0 l.length, .own s1 z 0 l'.length] = some ((st.move s0 s0 ((l ++ l').flatMap f)).put (some s) (.own s0 z 0 (l ++ l').length)) := by
  have e : (List.drop 0 (l'.flatMap f)).take (l'.length * z) = l'.flatMap f := by
    rw [List.drop_zero]
    exact List.take_of_length_le (by rw [flatMap_length hz]; exact Nat.le_refl _)
  simp only [SO.ef, ho, ho', Option.bind_some, appArg, flatMap_length hz, Nat.zero_add]
  rw [if_pos ⟨trivial, Nat.le_refl _⟩, e]
  simp only [Option.bind_some, List.drop_zero]
  rw [if_pos ⟨trivial, trivial, hb, h1⟩, List.flatMap_append]
  simp
end
theorem or128 {x : Int} (h : 0 ≤ x) : IntKind.u8.wrap ((BitVec.ofInt IntKind.u8.bits (IntKind.u8.wrap x) ||| BitVec.ofInt IntKind.u8.bits 128).toNat : Nat) = x % 128 + 128 := by
  obtain ⟨n, rfl⟩ : ∃ n : Nat, x = n := ⟨x.toNat, by omega⟩
  have e1 : IntKind.u8.wrap (n : Int) = ((n % 256 : Nat) : Int) := by
    unfold IntKind.wrap
    simp [IntKind.bits, IntKind.signed]
  have e : (BitVec.ofInt IntKind.u8.bits (((n % 256 : Nat) : Int)) ||| BitVec.ofInt IntKind.u8.bits ((128 : Nat) : Int)).toNat = n % 128 + 128 := by
    show (BitVec.ofInt 8 _ ||| BitVec.ofInt 8 _).toNat = _
    rw [BitVec.toNat_or, BitVec.ofInt_natCast, BitVec.ofInt_natCast, BitVec.toNat_ofNat, BitVec.toNat_ofNat]
    have h : ∀ m : Fin 256, (m.val % 2 ^ 8 ||| 128 % 2 ^ 8) = m.val % 128 + 128 := by decide
    have := h ⟨n % 256, Nat.mod_lt _ (by decide)⟩
    simp only at this
    rw [this]
    omega
  rw [e1]
  have := e
  rw [show (BitVec.ofInt IntKind.u8.bits (((n % 256 : Nat) : Int)) ||| BitVec.ofInt IntKind.u8.bits 128).toNat = n % 128 + 128 from this]
  rw [wu8 (by omega)]
  omega
theorem u8_of {n : Nat} : IntKind.u8.wrap (n : Int) = ((n % 256 : Nat) : Int) := by
  unfold IntKind.wrap
  simp [IntKind.bits, IntKind.signed]
theorem number_ok (l : List Nat) (n : Nat) (hn : n < 18446744073709551616) (hl : l.length ≤ 1000000) : Mov Tryd.prog 18 [] 1 l.length (bV l) [.n .u64 n] (l ++ sev n).length (bV (l ++ sev n)) := by
  refine mov_of_wp of18 (Nat.le_of_ble_eq_true rfl) ?_
  refine loop_ind2 (fun (q : List Nat) (m : Nat) => ⟨[(0, .own 0 1 0 q.length), (1, .v (.n .u64 m))], [(0, bV q)]⟩) (fun q m => m) (fun q m => m < 18446744073709551616 ∧ q ++ sev m = l ++ sev n) l n ⟨hn, rfl⟩ ?_
  intro q m ⟨h1, h2⟩ ih
  have hq : q.length ≤ 1000010 := by
    have e := congrArg List.length h2
    rw [List.length_append, List.length_append] at e
    have := sev_10 hn
    omega
  refine DecK.dec (fun h => ?_) (fun h => ?_)
  · have h' : ¬ m < 128 := by omega
    have w1 := or128 (x := (m : Int)) (by omega)
    have w2 : (m : Int).fdiv (2 ^ min (Int.toNat 7) IntKind.u64.bits) = ((m / 128 : Nat) : Int) := by
      show (m : Int).fdiv 128 = _
      rw [Int.fdiv_eq_ediv_of_nonneg _ (by decide)]
      omega
    refine OptK.mk _ (own_appo (l := q) (l' := [m % 128 + 128]) (f := nb) nb_len rfl (by rw [w1]; rfl) (by rw [bV_one]) (by simp; omega)) ?_
    refine loop_eq (st' := ⟨[(0, .own 0 1 0 (q ++ [m % 128 + 128]).length), (1, .v (.n .u64 ((m / 128 : Nat) : Int)))], [(0, bV (q ++ [m % 128 + 128]))]⟩) (by rw [w2]) (ih (q ++ [m % 128 + 128]) (m / 128) ⟨by omega, ?_⟩ (by omega))
    rw [← h2, sev_ge h', List.append_assoc]
    rfl
  · have h' : m < 128 := by omega
    have w1 : IntKind.u8.wrap (m : Int) = (m : Int) := wu8 (by omega)
    rw [sev_lt h'] at h2
    refine OptK.mk _ (own_appo (l := q) (l' := [m]) (f := nb) nb_len rfl (by rw [w1]; rfl) (by rw [bV_one]) (by simp; omega)) ?_
    rw [h2]
    exact endV' rfl rfl rfl rfl
theorem pr_un (lo hi : Int) : pr lo hi true = [] := rfl
theorem pr_kn (lo hi : Int) : pr lo hi false = sev (zz lo) ++ sev (hi - lo).toNat := rfl
theorem xnot64 {c : Nat} (h : c < 18446744073709551616) : c ^^^ 18446744073709551615 = 18446744073709551615 - c := by
  have e := congrArg BitVec.toNat (BitVec.allOnes_xor (x := BitVec.ofNat 64 c))
  rw [BitVec.toNat_xor, BitVec.toNat_not, BitVec.toNat_allOnes, BitVec.toNat_ofNat, Nat.mod_eq_of_lt h] at e
  rw [Nat.xor_comm]
  exact e
theorem u64_xor {a b : Nat} (ha : a < 18446744073709551616) (hb : b < 18446744073709551616) : IntKind.u64.wrap ((BitVec.ofInt IntKind.u64.bits (a : Int) ^^^ BitVec.ofInt IntKind.u64.bits (b : Int)).toNat : Nat) = ((a ^^^ b : Nat) : Int) := by
  have e : (BitVec.ofInt IntKind.u64.bits (a : Int) ^^^ BitVec.ofInt IntKind.u64.bits (b : Int)).toNat = a ^^^ b := by
    show (BitVec.ofInt 64 (a : Int) ^^^ BitVec.ofInt 64 (b : Int)).toNat = _
    rw [BitVec.toNat_xor, BitVec.ofInt_natCast, BitVec.ofInt_natCast, BitVec.toNat_ofNat, BitVec.toNat_ofNat, Nat.mod_eq_of_lt ha, Nat.mod_eq_of_lt hb]
  rw [e]
  have := Nat.xor_lt_two_pow (n := 64) ha hb
  rw [wu64 (by omega)]
theorem zz_eq {lo : Int} (h : -1152921504606846976 ≤ lo ∧ lo ≤ 1152921504606846976) : IntKind.u64.wrap
      ((BitVec.ofInt IntKind.u64.bits (IntKind.u64.wrap (IntKind.i64.wrap (lo * 2 ^ min (Int.toNat 1) IntKind.i64.bits))) ^^^
            BitVec.ofInt IntKind.u64.bits (IntKind.u64.wrap (lo.fdiv (2 ^ min (Int.toNat 63) IntKind.i64.bits)))).toNat : Nat) = (zz lo : Int) := by
  have e1 : IntKind.i64.wrap (lo * 2 ^ min (Int.toNat 1) IntKind.i64.bits) = 2 * lo := by
    show IntKind.i64.wrap (lo * 2) = _
    rw [w64 (by omega)]
    omega
  have e2 : lo.fdiv (2 ^ min (Int.toNat 63) IntKind.i64.bits) = lo / 9223372036854775808 := by
    show lo.fdiv 9223372036854775808 = _
    rw [Int.fdiv_eq_ediv_of_nonneg _ (by decide)]
  rw [e1, e2]
  unfold zz
  by_cases h0 : lo < 0
  · have e3 : lo / 9223372036854775808 = -1 := by omega
    obtain ⟨a, ha⟩ : ∃ a : Nat, (a : Int) = 18446744073709551616 + 2 * lo := ⟨(18446744073709551616 + 2 * lo).toNat, by omega⟩
    have e4 : IntKind.u64.wrap (2 * lo) = (a : Int) := by rw [wmu64]; omega
    have e5 : IntKind.u64.wrap (-1) = ((18446744073709551615 : Nat) : Int) := by rw [wmu64]; decide
    rw [e3, e4, e5, u64_xor (by omega) (by decide), xnot64 (by omega), if_pos h0]
    omega
  · have e3 : lo / 9223372036854775808 = 0 := by omega
    obtain ⟨a, ha⟩ : ∃ a : Nat, (a : Int) = 2 * lo := ⟨(2 * lo).toNat, by omega⟩
    have e4 : IntKind.u64.wrap (2 * lo) = (a : Int) := by rw [wmu64]; omega
    have e5 : IntKind.u64.wrap 0 = ((0 : Nat) : Int) := by rw [wmu64]; decide
    rw [e3, e4, e5, u64_xor (by omega) (by decide), Nat.xor_zero, if_neg h0]
    omega
theorem zz_lt {lo : Int} (h : -1152921504606846976 ≤ lo ∧ lo ≤ 1152921504606846976) : zz lo < 18446744073709551616 := by unfold zz; split <;> omega
theorem hl_eq {lo hi : Int} (h : -1152921504606846976 ≤ lo ∧ lo ≤ hi ∧ hi ≤ 1152921504606846976) : IntKind.u64.wrap (IntKind.i64.wrap (hi - lo)) = ((hi - lo).toNat : Int) := by
  rw [w64 (by omega), wmu64]
  omega
theorem endsTick (l : List Nat) (lo hi : Int) (u : Bool) (hb : u = false → -1152921504606846976 ≤ lo ∧ lo ≤ hi ∧ hi ≤ 1152921504606846976) (hl : l.length ≤ 1000) :
    Mov Tryd.prog 19 [] 1 l.length (bV l) [bdV lo hi u] (l ++ pr lo hi u).length (bV (l ++ pr lo hi u)) := by
  refine mov_of_wp of19 (Nat.le_of_ble_eq_true rfl) ?_
  cases u
  case true =>
    refine DecK.tt ?_
    rw [pr_un, List.append_nil]
    exact endV' rfl rfl rfl rfl
  have hb := hb rfl
  refine DecK.ff ?_
  have n1 := number_ok l (zz lo) (zz_lt (by omega)) (by omega)
  have n2 := number_ok (l ++ sev (zz lo)) (hi - lo).toNat (by omega) (by have := sev_10 (zz_lt (lo := lo) (by omega)); rw [List.length_append]; omega)
  rw [← zz_eq (by omega)] at n1
  rw [← hl_eq hb] at n2
  refine MovK.mk _ _ n1 ?_
  refine MovK.mk _ _ n2 ?_
  rw [pr_kn, ← List.append_assoc]
  exact endV' rfl rfl rfl rfl
theorem endsArc (l : List Nat) (lo hi : Int) (u : Bool) (hb : u = false → -1152921504606846976 ≤ lo ∧ lo ≤ hi ∧ hi ≤ 1152921504606846976) (hl : l.length ≤ 1000) :
    Mov Tryd.prog 21 [] 1 l.length (bV l) [bdV lo hi u] (l ++ pr lo hi u).length (bV (l ++ pr lo hi u)) := by
  refine mov_of_wp of21 (Nat.le_of_ble_eq_true rfl) ?_
  cases u
  case true =>
    refine DecK.tt ?_
    rw [pr_un, List.append_nil]
    exact endV' rfl rfl rfl rfl
  have hb := hb rfl
  refine DecK.ff ?_
  have n1 := number_ok l (zz lo) (zz_lt (by omega)) (by omega)
  have n2 := number_ok (l ++ sev (zz lo)) (hi - lo).toNat (by omega) (by have := sev_10 (zz_lt (lo := lo) (by omega)); rw [List.length_append]; omega)
  rw [← zz_eq (by omega)] at n1
  rw [← hl_eq hb] at n2
  refine MovK.mk _ _ n1 ?_
  refine MovK.mk _ _ n2 ?_
  rw [pr_kn, ← List.append_assoc]
  exact endV' rfl rfl rfl rfl
theorem endsQuanta (l : List Nat) (lo hi : Int) (u : Bool) (hb : u = false → -1152921504606846976 ≤ lo ∧ lo ≤ hi ∧ hi ≤ 1152921504606846976) (hl : l.length ≤ 1000) :
    Mov Tryd.prog 20 [] 1 l.length (bV l) [bdV lo hi u] (l ++ pr lo hi u).length (bV (l ++ pr lo hi u)) := by
  refine mov_of_wp of20 (Nat.le_of_ble_eq_true rfl) ?_
  cases u
  case true =>
    refine DecK.tt ?_
    rw [pr_un, List.append_nil]
    exact endV' rfl rfl rfl rfl
  have hb := hb rfl
  refine DecK.ff ?_
  have n1 := number_ok l (zz lo) (zz_lt (by omega)) (by omega)
  have n2 := number_ok (l ++ sev (zz lo)) (hi - lo).toNat (by omega) (by have := sev_10 (zz_lt (lo := lo) (by omega)); rw [List.length_append]; omega)
  rw [← zz_eq (by omega)] at n1
  rw [← hl_eq hb] at n2
  refine MovK.mk _ _ n1 ?_
  refine MovK.mk _ _ n2 ?_
  rw [pr_kn, ← List.append_assoc]
  exact endV' rfl rfl rfl rfl
theorem seven_new (n : Nat) (hn : n < 18446744073709551616) : New Tryd.prog 28 [.n .u64 n] 1 (sev n).length (bV (sev n)) := by
  refine new_of_wp of28 (Nat.le_of_ble_eq_true rfl) ?_
  have a1 : IntKind.u64.wrap ((n : Int).tdiv 128) = ((n / 128 : Nat) : Int) := by simp (discharger := omega) only [w64, wu64, wu8, w32, wu32, tdivC, tmodC]; omega
  have a2 : IntKind.u8.wrap ((n : Int).tmod 128) = ((n % 128 : Nat) : Int) := by simp (discharger := omega) only [w64, wu64, wu8, w32, wu32, tdivC, tmodC]; omega
  refine loop_eq (st' := ⟨[(0, .v (.n .u64 ((n / 128 : Nat) : Int))), (3, .own 7 1 0 ([] ++ [n % 128]).length)], [(7, bV ([] ++ [n % 128]))]⟩) (by rw [a1, a2]; rfl) ?_
  refine loop_ind3 (fun (p : List Nat) (x m : Nat) => ⟨[(0, .v (.n .u64 (m : Int))), (3, .own 7 1 0 (p ++ [x]).length)], [(7, bV (p ++ [x]))]⟩) (fun p x m => m)
    (fun p x m => x < 128 ∧ m < 18446744073709551616 ∧ (if m = 0 then p ++ [x] else p ++ (x + 128) :: sev m) = sev n) [] (n % 128) (n / 128) ⟨by omega, by omega, ?_⟩ ?_
  · by_cases h : n < 128
    · rw [if_pos (by omega), sev_lt h, Nat.mod_eq_of_lt h]; rfl
    · rw [if_neg (by omega), sev_ge h]; rfl
  intro p x m ⟨h1, h2, h3⟩ ih
  have hp : p.length ≤ 10 := by
    have e := congrArg List.length h3
    have := sev_10 hn
    split at e <;> simp at e <;> omega
  refine DecK.dec (fun h => ?_) (fun h => ?_)
  · rw [if_neg (by omega)] at h3
    have wi : IntKind.i64.wrap (((p ++ [x]).length : Int) - 1) = (p.length : Int) := by rw [List.length_append, List.length_singleton, w64 (by omega)]; omega
    refine OptK.mk _ (oia p.length wi (by simp)) ?_
    refine OptK.mk _ (old1 (g := fun x : Nat => .n .u8 (x : Int)) (l := p ++ [x]) rfl (x := x) (by simp)) ?_
    refine OptK.mk _ (oia p.length wi (by simp)) ?_
    have wx : IntKind.u8.wrap ((x : Int) + 128) = ((x + 128 : Nat) : Int) := by simp (discharger := omega) only [w64, wu64, wu8, w32, wu32, tdivC, tmodC]; omega
    refine OptK.mk _ (ost (f := nb) (l := p ++ [x]) (x := x + 128) nb_len rfl (by rw [wx]; rfl) rfl (by simp)) ?_
    have es : (p ++ [x]).set p.length (x + 128) = p ++ [x + 128] := by simp
    rw [es]
    have wm : IntKind.u8.wrap ((m : Int).tmod 128) = ((m % 128 : Nat) : Int) := by simp (discharger := omega) only [w64, wu64, wu8, w32, wu32, tdivC, tmodC]; omega
    have wd : IntKind.u64.wrap ((m : Int).tdiv 128) = ((m / 128 : Nat) : Int) := by simp (discharger := omega) only [w64, wu64, wu8, w32, wu32, tdivC, tmodC]; omega
    have el : (p ++ [x]).length = (p ++ [x + 128]).length := by simp
    rw [el]
    refine OptK.mk _ (own_appo (l := p ++ [x + 128]) (l' := [m % 128]) (f := nb) nb_len rfl (by rw [wm]; rfl) (by rw [bV_one]) (by simp; omega)) ?_
    refine loop_eq (st' := ⟨[(0, .v (.n .u64 ((m / 128 : Nat) : Int))), (3, .own 7 1 0 ((p ++ [x + 128]) ++ [m % 128]).length)], [(7, bV ((p ++ [x + 128]) ++ [m % 128]))]⟩) (by rw [wd]) (ih (p ++ [x + 128]) (m % 128) (m / 128) ⟨by omega, by omega, ?_⟩ (by omega))
    rw [← h3]
    by_cases g : m < 128
    · rw [if_pos (by omega), sev_lt g, Nat.mod_eq_of_lt g]; simp
    · rw [if_neg (by omega), sev_ge g]; simp
  · rw [if_pos (by omega)] at h3
    rw [← h3]
    exact endV' rfl rfl rfl rfl
theorem seven_ok (n : Nat) (hn : n < 18446744073709551616) : Pure Tryd.prog 28 [.n .u64 n] (.sl (sev n).length (bV (sev n)) false) := (seven_new n hn).pure (by rw [flatMap_length nb_len])
theorem four_ok (c : Nat) (hc : c < 4294967296) : Pure Tryd.prog 32 [.n .u32 c] (.sl 4 (bV (four c)) true) := by
  refine pure_of_wp of32 (Nat.le_of_ble_eq_true rfl) ?_
  have e1 : IntKind.u8.wrap (IntKind.u32.wrap ((c : Int).tdiv 16777216)) = ((c / 16777216 : Nat) : Int) := by simp (discharger := omega) only [w64, wu64, wu8, w32, wu32, tdivC, tmodC]; omega
  have e2 : IntKind.u8.wrap ((IntKind.u32.wrap ((c : Int).tdiv 65536)).tmod 256) = ((c / 65536 % 256 : Nat) : Int) := by simp (discharger := omega) only [w64, wu64, wu8, w32, wu32, tdivC, tmodC]; omega
  have e3 : IntKind.u8.wrap ((IntKind.u32.wrap ((c : Int).tdiv 256)).tmod 256) = ((c / 256 % 256 : Nat) : Int) := by simp (discharger := omega) only [w64, wu64, wu8, w32, wu32, tdivC, tmodC]; omega
  have e4 : IntKind.u8.wrap ((c : Int).tmod 256) = ((c % 256 : Nat) : Int) := by simp (discharger := omega) only [w64, wu64, wu8, w32, wu32, tdivC, tmodC]; omega
  refine endV rfl ?_
  rw [e1, e2, e3, e4]
  rfl
theorem crcRef_ok (l : List UInt8) (t : Bool) (hl : l.length ≤ 9000000000000000000) : Pure Tryd.prog 8 [.sl l.length (bytesV l) t] (.n .u32 ((4294967295 ^^^ crcN l 4294967295 : Nat) : Int)) := by
  refine pure_of_wp of8 (Nat.le_of_ble_eq_true rfl) ?_
  refine loop_ind2 (fun (c : Nat) (i : Nat) => ⟨[(3, .v (.n .u32 c)), (9, .v (.sl l.length (bytesV l) t)), (10, .v (.n .i64 l.length)), (11, .v (.n .i64 i))], []⟩) (fun c i => l.length - i)
    (fun c i => c < 4294967296 ∧ i ≤ l.length ∧ crcN (l.drop i) c = crcN l 4294967295) 4294967295 0 ⟨by decide, by omega, rfl⟩ ?_
  intro c i ⟨h1, h2, h3⟩ ih
  refine DecK.dec (fun h => ?_) (fun h => ?_)
  · have hi : i < l.length := by omega
    have hx : l[i]? = some l[i] := List.getElem?_eq_getElem hi
    rw [List.drop_eq_getElem_cons hi, crcN] at h3
    generalize l[i] = x at h3 hx
    have hxb : x.toNat < 256 := x.toNat_lt
    refine OptK.mk _ (ria i rfl (by omega)) ?_
    refine OptK.mk _ (rldB hx) ?_
    have wi : IntKind.i64.wrap ((i : Int) + 1) = ((i + 1 : Nat) : Int) := by simp (discharger := omega) only [w64, wu64, wu8, w32, wu32, tdivC, tmodC]; omega
    refine loop_ind2 (fun (r : Nat) (k : Nat) => ⟨[(3, .v (.n .u32 r)), (5, .v (.n .u8 ((x.toNat : Nat) : Int))), (9, .v (.sl l.length (bytesV l) t)), (10, .v (.n .i64 l.length)), (11, .v (.n .i64 i)), (15, .v (.n .i64 k))], []⟩) (fun r k => 8 - k)
      (fun r k => r < 4294967296 ∧ k ≤ 8 ∧ bitsN (8 - k) (r ^^^ (x.toNat / 2 ^ k)) = bitsN 8 (c ^^^ x.toNat)) c 0 ⟨h1, by omega, by simp⟩ ?_
    intro r k ⟨g1, g2, g3⟩ ih'
    refine DecK.dec (fun g => ?_) (fun g => ?_)
    · obtain ⟨m, hm⟩ : ∃ m, 8 - k = m + 1 := ⟨7 - k, by omega⟩
      rw [hm, bitsN, bit_ref] at g3
      have wk : IntKind.i64.wrap ((k : Int) + 1) = ((k + 1 : Nat) : Int) := by simp (discharger := omega) only [w64, wu64, wu8, w32, wu32, tdivC, tmodC]; omega
      refine OptK.mk _ (op_shr (by omega) (by show (k : Int).toNat ≤ 8; omega)) ?_
      have hs : ((x.toNat : Nat) : Int) / 2 ^ (k : Int).toNat = ((x.toNat / 2 ^ k : Nat) : Int) := by
        rw [Int.toNat_natCast]
        norm_cast
      have hlt : x.toNat / 2 ^ k < 256 := Nat.lt_of_le_of_lt (Nat.div_le_self _ _) hxb
      have hb : (x.toNat / 2 ^ k) / 2 = x.toNat / 2 ^ (k + 1) := by rw [Nat.div_div_eq_div_mul, Nat.pow_succ]
      rw [hb] at g3
      generalize x.toNat / 2 ^ k = y at hs hlt g3
      have w1 : (r : Int).tmod 2 = ((r % 2 : Nat) : Int) := by simp (discharger := omega) only [w64, wu64, wu8, w32, wu32, tdivC, tmodC]; omega
      have w2 : IntKind.u32.wrap (((y : Nat) : Int).tmod 2) = ((y % 2 : Nat) : Int) := by simp (discharger := omega) only [w64, wu64, wu8, w32, wu32, tdivC, tmodC]; omega
      have w3 : IntKind.u32.wrap ((r : Int).tdiv 2) = ((r / 2 : Nat) : Int) := by simp (discharger := omega) only [w64, wu64, wu8, w32, wu32, tdivC, tmodC]; omega
      refine DecK.bne (fun e => ?_) (fun e => ?_)
      · rw [hs, w1, w2] at e
        have a2 := u32_xor (a := r / 2) (b := 3988292384) (by omega) (by decide)
        have er : refBit r (y % 2) = r / 2 ^^^ 3988292384 := if_pos (by omega)
        refine loop_eq (st' := ⟨[(3, .v (.n .u32 ((r / 2 ^^^ 3988292384 : Nat) : Int))), (5, .v (.n .u8 ((x.toNat : Nat) : Int))), (9, .v (.sl l.length (bytesV l) t)), (10, .v (.n .i64 l.length)), (11, .v (.n .i64 i)), (15, .v (.n .i64 ((k + 1 : Nat) : Int)))], []⟩) (by rw [w3, wk, ← a2]; rfl) (ih' (r / 2 ^^^ 3988292384) (k + 1) ⟨by rw [← er]; exact refBit_lt g1, by omega, ?_⟩ (by omega))
        rw [show 8 - (k + 1) = m by omega, ← er]; exact g3
      · rw [hs, w1, w2] at e
        have er : refBit r (y % 2) = r / 2 := if_neg (by omega)
        refine loop_eq (st' := ⟨[(3, .v (.n .u32 ((r / 2 : Nat) : Int))), (5, .v (.n .u8 ((x.toNat : Nat) : Int))), (9, .v (.sl l.length (bytesV l) t)), (10, .v (.n .i64 l.length)), (11, .v (.n .i64 i)), (15, .v (.n .i64 ((k + 1 : Nat) : Int)))], []⟩) (by rw [w3, wk]) (ih' (r / 2) (k + 1) ⟨by omega, by omega, ?_⟩ (by omega))
        rw [show 8 - (k + 1) = m by omega, ← er]; exact g3
    · have hk : k = 8 := by omega
      subst hk
      rw [show x.toNat / 2 ^ 8 = 0 from Nat.div_eq_of_lt (by simpa using hxb), Nat.xor_zero] at g3
      have g3 : r = bitsN 8 (c ^^^ x.toNat) := g3
      refine loop_eq (st' := ⟨[(3, .v (.n .u32 r)), (9, .v (.sl l.length (bytesV l) t)), (10, .v (.n .i64 l.length)), (11, .v (.n .i64 ((i + 1 : Nat) : Int)))], []⟩) (by rw [wi]) (ih r (i + 1) ⟨g1, by omega, by rw [g3]; exact h3⟩ (by omega))
  · refine endV rfl ?_
    rw [List.drop_eq_nil_of_le (by omega), crcN] at h3
    rw [← h3, not32 h1]
    have : IntKind.u32.wrap (4294967295 - (c : Int)) = ((4294967295 - c : Nat) : Int) := by simp (discharger := omega) only [w64, wu64, wu8, w32, wu32, tdivC, tmodC]; omega
    exact congrArg (V.n IntKind.u32) this
end Go.Proofs.YtljcbmnkjiogmaaDoor.Sv

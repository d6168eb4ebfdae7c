/- Alerts: one inside the other, the program's and the reference's. No condition. -/
import Derived.Test.YtljcbmnkjiogmaaGreatDoorAl
import Derived.Test.YtljcbmnkjiogmaaGreatDoorBcTick
import Derived.Test.YtljcbmnkjiogmaaGreatDoorBcArc
import Derived.Test.YtljcbmnkjiogmaaGreatDoorBcQuanta
namespace Go.Proofs.YtljcbmnkjiogmaaGreatDoor.Sv
open Go Go.RowKit
set_option linter.unusedVariables false
set_option linter.unusedSimpArgs false
set_option maxRecDepth 100000
/-- spyglass/bound.Inside(spyglass/api.Tick) -/
def F33 : Fn1 := ⟨28, .seq (.reg [⟨some 2, none, .box, [.tm 0]⟩, ⟨some 3, none, .box, [.tm 1]⟩, ⟨some 4, none, .mv, [.cn (.b false)]⟩] [2, 3]) (.seq (.reg [⟨some 5, none, .ld true 3 false, [.tm 3]⟩, ⟨some 6, none, .ld true 3 false, [.tm 3]⟩, ⟨some 7, none, .call 56, [.tm 5, .tm 6]⟩, ⟨some 8, none, .mv, [.tm 7]⟩, ⟨some 9, some (8, false), .ld true 3 false, [.tm 2]⟩, ⟨some 10, some (8, false), .ld true 3 false, [.tm 2]⟩, ⟨some 11, some (8, false), .call 56, [.tm 9, .tm 10]⟩, ⟨some 12, some (8, false), .po (.un .not), [.tm 11]⟩, ⟨some 13, some (8, false), .mv, [.tm 12]⟩, ⟨some 14, some (13, true), .fa 0, [.tm 3]⟩, ⟨some 15, some (13, true), .ld false 1 false, [.tm 14]⟩, ⟨some 16, some (13, true), .fa 0, [.tm 2]⟩, ⟨some 17, some (13, true), .ld false 1 false, [.tm 16]⟩, ⟨some 18, some (13, true), .po (.bin .leq), [.tm 15, .tm 17]⟩, ⟨some 19, some (8, false), .pick, [.tm 13, .tm 18, .cn (.b false)]⟩, ⟨some 20, some (8, false), .mv, [.tm 19]⟩, ⟨some 21, some (20, true), .fa 1, [.tm 2]⟩, ⟨some 22, some (20, true), .ld false 1 false, [.tm 21]⟩, ⟨some 23, some (20, true), .fa 1, [.tm 3]⟩, ⟨some 24, some (20, true), .ld false 1 false, [.tm 23]⟩, ⟨some 25, some (20, true), .po (.bin .leq), [.tm 22, .tm 24]⟩, ⟨some 26, some (8, false), .pick, [.tm 20, .tm 25, .cn (.b false)]⟩, ⟨some 27, none, .pick, [.tm 8, .cn (.b true), .tm 26]⟩, ⟨some 4, none, .mv, [.tm 27]⟩] [4]) .ret), [.tm 4]⟩
theorem of33 : Fn1.of Tryz.prog 33 ⟨false, [], false⟩ [[2, 3], [4]] = some F33 := by kernel_rfl
/-- spyglass/bound.Inside(spyglass/api.Arc) -/
def F35 : Fn1 := ⟨28, .seq (.reg [⟨some 2, none, .box, [.tm 0]⟩, ⟨some 3, none, .box, [.tm 1]⟩, ⟨some 4, none, .mv, [.cn (.b false)]⟩] [2, 3]) (.seq (.reg [⟨some 5, none, .ld true 3 false, [.tm 3]⟩, ⟨some 6, none, .ld true 3 false, [.tm 3]⟩, ⟨some 7, none, .call 58, [.tm 5, .tm 6]⟩, ⟨some 8, none, .mv, [.tm 7]⟩, ⟨some 9, some (8, false), .ld true 3 false, [.tm 2]⟩, ⟨some 10, some (8, false), .ld true 3 false, [.tm 2]⟩, ⟨some 11, some (8, false), .call 58, [.tm 9, .tm 10]⟩, ⟨some 12, some (8, false), .po (.un .not), [.tm 11]⟩, ⟨some 13, some (8, false), .mv, [.tm 12]⟩, ⟨some 14, some (13, true), .fa 0, [.tm 3]⟩, ⟨some 15, some (13, true), .ld false 1 false, [.tm 14]⟩, ⟨some 16, some (13, true), .fa 0, [.tm 2]⟩, ⟨some 17, some (13, true), .ld false 1 false, [.tm 16]⟩, ⟨some 18, some (13, true), .po (.bin .leq), [.tm 15, .tm 17]⟩, ⟨some 19, some (8, false), .pick, [.tm 13, .tm 18, .cn (.b false)]⟩, ⟨some 20, some (8, false), .mv, [.tm 19]⟩, ⟨some 21, some (20, true), .fa 1, [.tm 2]⟩, ⟨some 22, some (20, true), .ld false 1 false, [.tm 21]⟩, ⟨some 23, some (20, true), .fa 1, [.tm 3]⟩, ⟨some 24, some (20, true), .ld false 1 false, [.tm 23]⟩, ⟨some 25, some (20, true), .po (.bin .leq), [.tm 22, .tm 24]⟩, ⟨some 26, some (8, false), .pick, [.tm 20, .tm 25, .cn (.b false)]⟩, ⟨some 27, none, .pick, [.tm 8, .cn (.b true), .tm 26]⟩, ⟨some 4, none, .mv, [.tm 27]⟩] [4]) .ret), [.tm 4]⟩
theorem of35 : Fn1.of Tryz.prog 35 ⟨false, [], false⟩ [[2, 3], [4]] = some F35 := by kernel_rfl
/-- spyglass/bound.Inside(spyglass/api.Quanta) -/
def F36 : Fn1 := ⟨28, .seq (.reg [⟨some 2, none, .box, [.tm 0]⟩, ⟨some 3, none, .box, [.tm 1]⟩, ⟨some 4, none, .mv, [.cn (.b false)]⟩] [2, 3]) (.seq (.reg [⟨some 5, none, .ld true 3 false, [.tm 3]⟩, ⟨some 6, none, .ld true 3 false, [.tm 3]⟩, ⟨some 7, none, .call 59, [.tm 5, .tm 6]⟩, ⟨some 8, none, .mv, [.tm 7]⟩, ⟨some 9, some (8, false), .ld true 3 false, [.tm 2]⟩, ⟨some 10, some (8, false), .ld true 3 false, [.tm 2]⟩, ⟨some 11, some (8, false), .call 59, [.tm 9, .tm 10]⟩, ⟨some 12, some (8, false), .po (.un .not), [.tm 11]⟩, ⟨some 13, some (8, false), .mv, [.tm 12]⟩, ⟨some 14, some (13, true), .fa 0, [.tm 3]⟩, ⟨some 15, some (13, true), .ld false 1 false, [.tm 14]⟩, ⟨some 16, some (13, true), .fa 0, [.tm 2]⟩, ⟨some 17, some (13, true), .ld false 1 false, [.tm 16]⟩, ⟨some 18, some (13, true), .po (.bin .leq), [.tm 15, .tm 17]⟩, ⟨some 19, some (8, false), .pick, [.tm 13, .tm 18, .cn (.b false)]⟩, ⟨some 20, some (8, false), .mv, [.tm 19]⟩, ⟨some 21, some (20, true), .fa 1, [.tm 2]⟩, ⟨some 22, some (20, true), .ld false 1 false, [.tm 21]⟩, ⟨some 23, some (20, true), .fa 1, [.tm 3]⟩, ⟨some 24, some (20, true), .ld false 1 false, [.tm 23]⟩, ⟨some 25, some (20, true), .po (.bin .leq), [.tm 22, .tm 24]⟩, ⟨some 26, some (8, false), .pick, [.tm 20, .tm 25, .cn (.b false)]⟩, ⟨some 27, none, .pick, [.tm 8, .cn (.b true), .tm 26]⟩, ⟨some 4, none, .mv, [.tm 27]⟩] [4]) .ret), [.tm 4]⟩
theorem of36 : Fn1.of Tryz.prog 36 ⟨false, [], false⟩ [[2, 3], [4]] = some F36 := by kernel_rfl
/-- spyglass/spyref1.Narrower(spyglass/api.Tick) -/
def F37 : Fn1 := ⟨40, .seq (.reg [⟨some 2, none, .box, [.tm 0]⟩, ⟨some 3, none, .box, [.tm 1]⟩, ⟨some 4, none, .mv, [.cn (.b false)]⟩] [2, 3]) (.seq (.reg [⟨some 12, none, .ld true 3 false, [.tm 2]⟩, ⟨some 13, none, .call 60, [.tm 12]⟩, ⟨some 11, none, .mv, [.tm 13]⟩, ⟨some 14, none, .po (.ext 0), [.tm 11]⟩, ⟨some 15, none, .po (.ext 1), [.tm 11]⟩, ⟨some 16, none, .po (.ext 2), [.tm 11]⟩, ⟨some 5, none, .alloc [.b false, .sl 0 [] true], []⟩, ⟨some 6, none, .alloc [.b false, .sl 0 [] true], []⟩, ⟨none, none, .st 2, [.tm 5, .tm 14]⟩, ⟨none, none, .st 2, [.tm 6, .tm 15]⟩, ⟨some 7, none, .mv, [.tm 16]⟩] [3, 5, 6, 7]) (.seq (.reg [⟨some 18, none, .ld true 3 false, [.tm 3]⟩, ⟨some 19, none, .call 60, [.tm 18]⟩, ⟨some 17, none, .mv, [.tm 19]⟩, ⟨some 20, none, .po (.ext 0), [.tm 17]⟩, ⟨some 21, none, .po (.ext 1), [.tm 17]⟩, ⟨some 22, none, .po (.ext 2), [.tm 17]⟩, ⟨some 8, none, .alloc [.b false, .sl 0 [] true], []⟩, ⟨some 9, none, .alloc [.b false, .sl 0 [] true], []⟩, ⟨none, none, .st 2, [.tm 8, .tm 20]⟩, ⟨none, none, .st 2, [.tm 9, .tm 21]⟩, ⟨some 10, none, .mv, [.tm 22]⟩] [5, 6, 7, 8, 9, 10]) (.seq (.reg [⟨some 23, none, .mv, [.tm 10]⟩, ⟨some 24, none, .po (.un .not), [.tm 23]⟩, ⟨some 25, none, .mv, [.tm 24]⟩, ⟨some 26, some (25, false), .mv, [.tm 7]⟩, ⟨some 27, some (25, false), .mv, [.tm 26]⟩, ⟨some 28, some (27, true), .ld true 2 false, [.tm 5]⟩, ⟨some 29, some (27, true), .ld true 2 false, [.tm 8]⟩, ⟨some 30, some (27, true), .call 45, [.tm 28, .tm 29]⟩, ⟨some 31, some (27, true), .po (.bin .geq), [.tm 30, .cn (.n .i64 0)]⟩, ⟨some 32, some (25, false), .pick, [.tm 27, .tm 31, .cn (.b false)]⟩, ⟨some 33, some (25, false), .mv, [.tm 32]⟩, ⟨some 34, some (33, true), .ld true 2 false, [.tm 6]⟩, ⟨some 35, some (33, true), .ld true 2 false, [.tm 9]⟩, ⟨some 36, some (33, true), .call 45, [.tm 34, .tm 35]⟩, ⟨some 37, some (33, true), .po (.bin .leq), [.tm 36, .cn (.n .i64 0)]⟩, ⟨some 38, some (25, false), .pick, [.tm 33, .tm 37, .cn (.b false)]⟩, ⟨some 39, none, .pick, [.tm 25, .cn (.b true), .tm 38]⟩, ⟨some 4, none, .mv, [.tm 39]⟩] [4]) .ret))), [.tm 4]⟩
theorem of37 : Fn1.of Tryz.prog 37 ⟨false, [], false⟩ [[2, 3], [3, 5, 6, 7], [5, 6, 7, 8, 9, 10], [4]] = some F37 := by kernel_rfl
/-- spyglass/spyref1.Narrower(spyglass/api.Arc) -/
def F38 : Fn1 := ⟨40, .seq (.reg [⟨some 2, none, .box, [.tm 0]⟩, ⟨some 3, none, .box, [.tm 1]⟩, ⟨some 4, none, .mv, [.cn (.b false)]⟩] [2, 3]) (.seq (.reg [⟨some 12, none, .ld true 3 false, [.tm 2]⟩, ⟨some 13, none, .call 40, [.tm 12]⟩, ⟨some 11, none, .mv, [.tm 13]⟩, ⟨some 14, none, .po (.ext 0), [.tm 11]⟩, ⟨some 15, none, .po (.ext 1), [.tm 11]⟩, ⟨some 16, none, .po (.ext 2), [.tm 11]⟩, ⟨some 5, none, .alloc [.b false, .sl 0 [] true], []⟩, ⟨some 6, none, .alloc [.b false, .sl 0 [] true], []⟩, ⟨none, none, .st 2, [.tm 5, .tm 14]⟩, ⟨none, none, .st 2, [.tm 6, .tm 15]⟩, ⟨some 7, none, .mv, [.tm 16]⟩] [3, 5, 6, 7]) (.seq (.reg [⟨some 18, none, .ld true 3 false, [.tm 3]⟩, ⟨some 19, none, .call 40, [.tm 18]⟩, ⟨some 17, none, .mv, [.tm 19]⟩, ⟨some 20, none, .po (.ext 0), [.tm 17]⟩, ⟨some 21, none, .po (.ext 1), [.tm 17]⟩, ⟨some 22, none, .po (.ext 2), [.tm 17]⟩, ⟨some 8, none, .alloc [.b false, .sl 0 [] true], []⟩, ⟨some 9, none, .alloc [.b false, .sl 0 [] true], []⟩, ⟨none, none, .st 2, [.tm 8, .tm 20]⟩, ⟨none, none, .st 2, [.tm 9, .tm 21]⟩, ⟨some 10, none, .mv, [.tm 22]⟩] [5, 6, 7, 8, 9, 10]) (.seq (.reg [⟨some 23, none, .mv, [.tm 10]⟩, ⟨some 24, none, .po (.un .not), [.tm 23]⟩, ⟨some 25, none, .mv, [.tm 24]⟩, ⟨some 26, some (25, false), .mv, [.tm 7]⟩, ⟨some 27, some (25, false), .mv, [.tm 26]⟩, ⟨some 28, some (27, true), .ld true 2 false, [.tm 5]⟩, ⟨some 29, some (27, true), .ld true 2 false, [.tm 8]⟩, ⟨some 30, some (27, true), .call 45, [.tm 28, .tm 29]⟩, ⟨some 31, some (27, true), .po (.bin .geq), [.tm 30, .cn (.n .i64 0)]⟩, ⟨some 32, some (25, false), .pick, [.tm 27, .tm 31, .cn (.b false)]⟩, ⟨some 33, some (25, false), .mv, [.tm 32]⟩, ⟨some 34, some (33, true), .ld true 2 false, [.tm 6]⟩, ⟨some 35, some (33, true), .ld true 2 false, [.tm 9]⟩, ⟨some 36, some (33, true), .call 45, [.tm 34, .tm 35]⟩, ⟨some 37, some (33, true), .po (.bin .leq), [.tm 36, .cn (.n .i64 0)]⟩, ⟨some 38, some (25, false), .pick, [.tm 33, .tm 37, .cn (.b false)]⟩, ⟨some 39, none, .pick, [.tm 25, .cn (.b true), .tm 38]⟩, ⟨some 4, none, .mv, [.tm 39]⟩] [4]) .ret))), [.tm 4]⟩
theorem of38 : Fn1.of Tryz.prog 38 ⟨false, [], false⟩ [[2, 3], [3, 5, 6, 7], [5, 6, 7, 8, 9, 10], [4]] = some F38 := by kernel_rfl
/-- spyglass/spyref1.Narrower(spyglass/api.Quanta) -/
def F39 : Fn1 := ⟨40, .seq (.reg [⟨some 2, none, .box, [.tm 0]⟩, ⟨some 3, none, .box, [.tm 1]⟩, ⟨some 4, none, .mv, [.cn (.b false)]⟩] [2, 3]) (.seq (.reg [⟨some 12, none, .ld true 3 false, [.tm 2]⟩, ⟨some 13, none, .call 61, [.tm 12]⟩, ⟨some 11, none, .mv, [.tm 13]⟩, ⟨some 14, none, .po (.ext 0), [.tm 11]⟩, ⟨some 15, none, .po (.ext 1), [.tm 11]⟩, ⟨some 16, none, .po (.ext 2), [.tm 11]⟩, ⟨some 5, none, .alloc [.b false, .sl 0 [] true], []⟩, ⟨some 6, none, .alloc [.b false, .sl 0 [] true], []⟩, ⟨none, none, .st 2, [.tm 5, .tm 14]⟩, ⟨none, none, .st 2, [.tm 6, .tm 15]⟩, ⟨some 7, none, .mv, [.tm 16]⟩] [3, 5, 6, 7]) (.seq (.reg [⟨some 18, none, .ld true 3 false, [.tm 3]⟩, ⟨some 19, none, .call 61, [.tm 18]⟩, ⟨some 17, none, .mv, [.tm 19]⟩, ⟨some 20, none, .po (.ext 0), [.tm 17]⟩, ⟨some 21, none, .po (.ext 1), [.tm 17]⟩, ⟨some 22, none, .po (.ext 2), [.tm 17]⟩, ⟨some 8, none, .alloc [.b false, .sl 0 [] true], []⟩, ⟨some 9, none, .alloc [.b false, .sl 0 [] true], []⟩, ⟨none, none, .st 2, [.tm 8, .tm 20]⟩, ⟨none, none, .st 2, [.tm 9, .tm 21]⟩, ⟨some 10, none, .mv, [.tm 22]⟩] [5, 6, 7, 8, 9, 10]) (.seq (.reg [⟨some 23, none, .mv, [.tm 10]⟩, ⟨some 24, none, .po (.un .not), [.tm 23]⟩, ⟨some 25, none, .mv, [.tm 24]⟩, ⟨some 26, some (25, false), .mv, [.tm 7]⟩, ⟨some 27, some (25, false), .mv, [.tm 26]⟩, ⟨some 28, some (27, true), .ld true 2 false, [.tm 5]⟩, ⟨some 29, some (27, true), .ld true 2 false, [.tm 8]⟩, ⟨some 30, some (27, true), .call 45, [.tm 28, .tm 29]⟩, ⟨some 31, some (27, true), .po (.bin .geq), [.tm 30, .cn (.n .i64 0)]⟩, ⟨some 32, some (25, false), .pick, [.tm 27, .tm 31, .cn (.b false)]⟩, ⟨some 33, some (25, false), .mv, [.tm 32]⟩, ⟨some 34, some (33, true), .ld true 2 false, [.tm 6]⟩, ⟨some 35, some (33, true), .ld true 2 false, [.tm 9]⟩, ⟨some 36, some (33, true), .call 45, [.tm 34, .tm 35]⟩, ⟨some 37, some (33, true), .po (.bin .leq), [.tm 36, .cn (.n .i64 0)]⟩, ⟨some 38, some (25, false), .pick, [.tm 33, .tm 37, .cn (.b false)]⟩, ⟨some 39, none, .pick, [.tm 25, .cn (.b true), .tm 38]⟩, ⟨some 4, none, .mv, [.tm 39]⟩] [4]) .ret))), [.tm 4]⟩
theorem of39 : Fn1.of Tryz.prog 39 ⟨false, [], false⟩ [[2, 3], [3, 5, 6, 7], [5, 6, 7, 8, 9, 10], [4]] = some F39 := by kernel_rfl
/-- spyglass/alert.arcInside -/
def F34 : Fn1 := ⟨37, .seq (.reg [⟨some 2, none, .box, [.tm 0]⟩, ⟨some 3, none, .box, [.tm 1]⟩, ⟨some 4, none, .mv, [.cn (.b false)]⟩] [2, 3]) (.seq (.dreg [⟨some 6, none, .ld true 3 false, [.tm 2]⟩, ⟨some 7, none, .call 57, [.tm 6]⟩, ⟨some 8, none, .ld true 3 false, [.tm 3]⟩, ⟨some 9, none, .call 57, [.tm 8]⟩, ⟨none, none, .st 3, [.tm 2, .tm 7]⟩, ⟨none, none, .st 3, [.tm 3, .tm 9]⟩] [] [2, 3]) (.seq (.seq (.reg [⟨some 10, none, .fa 2, [.tm 2]⟩, ⟨some 11, none, .ld false 1 false, [.tm 10]⟩, ⟨some 12, none, .mv, [.tm 11]⟩, ⟨some 13, some (12, false), .fa 2, [.tm 3]⟩, ⟨some 14, some (12, false), .ld false 1 false, [.tm 13]⟩, ⟨some 15, none, .pick, [.tm 12, .cn (.b true), .tm 14]⟩] [2, 3, 15]) (.cond (.tm 15) (.seq (.reg [⟨some 16, none, .fa 2, [.tm 3]⟩, ⟨some 17, none, .ld false 1 false, [.tm 16]⟩, ⟨some 4, none, .mv, [.tm 17]⟩] [4]) .ret) .skip)) (.seq (.reg [⟨some 18, none, .fa 0, [.tm 2]⟩, ⟨some 19, none, .ld false 1 false, [.tm 18]⟩, ⟨some 20, none, .fa 0, [.tm 3]⟩, ⟨some 21, none, .ld false 1 false, [.tm 20]⟩, ⟨some 22, none, .po (.bin .sub), [.tm 19, .tm 21]⟩, ⟨some 23, none, .po (.bin .and), [.tm 22, .cn (.n .i64 4294967295)]⟩, ⟨some 5, none, .mv, [.tm 23]⟩] [2, 3, 5]) (.seq (.reg [⟨some 24, none, .mv, [.tm 5]⟩, ⟨some 25, none, .fa 1, [.tm 2]⟩, ⟨some 26, none, .ld false 1 false, [.tm 25]⟩, ⟨some 27, none, .po (.bin .add), [.tm 24, .tm 26]⟩, ⟨some 28, none, .fa 0, [.tm 2]⟩, ⟨some 29, none, .ld false 1 false, [.tm 28]⟩, ⟨some 30, none, .po (.bin .sub), [.tm 27, .tm 29]⟩, ⟨some 31, none, .fa 1, [.tm 3]⟩, ⟨some 32, none, .ld false 1 false, [.tm 31]⟩, ⟨some 33, none, .fa 0, [.tm 3]⟩, ⟨some 34, none, .ld false 1 false, [.tm 33]⟩, ⟨some 35, none, .po (.bin .sub), [.tm 32, .tm 34]⟩, ⟨some 36, none, .po (.bin .leq), [.tm 30, .tm 35]⟩, ⟨some 4, none, .mv, [.tm 36]⟩] [4]) .ret)))), [.tm 4]⟩
theorem of34 : Fn1.of Tryz.prog 34 ⟨false, [], false⟩ [[2, 3], [2, 3], [2, 3, 15], [4], [2, 3, 5], [4]] = some F34 := by kernel_rfl
/-- spyglass/spyref1.AlertInside -/
def F14 : Fn1 := ⟨103, .seq (.reg [⟨some 2, none, .box, [.tm 0]⟩, ⟨some 3, none, .box, [.tm 1]⟩, ⟨some 4, none, .mv, [.cn (.b false)]⟩] [2, 3]) (.seq (.seq (.reg [⟨some 13, none, .fa 0, [.tm 2]⟩, ⟨some 14, none, .ld false 1 false, [.tm 13]⟩, ⟨some 15, none, .fa 0, [.tm 3]⟩, ⟨some 16, none, .ld false 1 false, [.tm 15]⟩, ⟨some 17, none, .po (.bin .neq), [.tm 14, .tm 16]⟩, ⟨some 18, none, .mv, [.tm 17]⟩, ⟨some 19, some (18, false), .fa 1, [.tm 2]⟩, ⟨some 20, some (18, false), .ld false 1 false, [.tm 19]⟩, ⟨some 21, some (18, false), .fa 1, [.tm 3]⟩, ⟨some 22, some (18, false), .ld false 1 false, [.tm 21]⟩, ⟨some 23, some (18, false), .po (.bin .neq), [.tm 20, .tm 22]⟩, ⟨some 24, none, .pick, [.tm 18, .cn (.b true), .tm 23]⟩, ⟨some 25, none, .mv, [.tm 24]⟩, ⟨some 26, some (25, false), .fa 2, [.tm 2]⟩, ⟨some 27, some (25, false), .ld false 1 false, [.tm 26]⟩, ⟨some 28, some (25, false), .fa 2, [.tm 3]⟩, ⟨some 29, some (25, false), .ld false 1 false, [.tm 28]⟩, ⟨some 30, some (25, false), .po (.bin .neq), [.tm 27, .tm 29]⟩, ⟨some 31, none, .pick, [.tm 25, .cn (.b true), .tm 30]⟩, ⟨some 32, none, .mv, [.tm 31]⟩, ⟨some 33, some (32, false), .fa 15, [.tm 2]⟩, ⟨some 34, some (32, false), .ld false 1 false, [.tm 33]⟩, ⟨some 35, some (32, false), .fa 15, [.tm 3]⟩, ⟨some 36, some (32, false), .ld false 1 false, [.tm 35]⟩, ⟨some 37, some (32, false), .po (.bin .neq), [.tm 34, .tm 36]⟩, ⟨some 38, none, .pick, [.tm 32, .cn (.b true), .tm 37]⟩, ⟨some 39, none, .mv, [.tm 38]⟩, ⟨some 40, some (39, false), .fa 3, [.tm 2]⟩, ⟨some 41, some (39, false), .ld true 3 false, [.tm 40]⟩, ⟨some 42, some (39, false), .fa 3, [.tm 3]⟩, ⟨some 43, some (39, false), .ld true 3 false, [.tm 42]⟩, ⟨some 44, some (39, false), .call 37, [.tm 41, .tm 43]⟩, ⟨some 45, some (39, false), .po (.un .not), [.tm 44]⟩, ⟨some 46, none, .pick, [.tm 39, .cn (.b true), .tm 45]⟩, ⟨some 47, none, .mv, [.tm 46]⟩, ⟨some 48, some (47, false), .fa 9, [.tm 2]⟩, ⟨some 49, some (47, false), .ld true 3 false, [.tm 48]⟩, ⟨some 50, some (47, false), .fa 9, [.tm 3]⟩, ⟨some 51, some (47, false), .ld true 3 false, [.tm 50]⟩, ⟨some 52, some (47, false), .call 38, [.tm 49, .tm 51]⟩, ⟨some 53, some (47, false), .po (.un .not), [.tm 52]⟩, ⟨some 54, none, .pick, [.tm 47, .cn (.b true), .tm 53]⟩, ⟨some 55, none, .mv, [.tm 54]⟩, ⟨some 56, some (55, false), .fa 12, [.tm 2]⟩, ⟨some 57, some (55, false), .ld true 3 false, [.tm 56]⟩, ⟨some 58, some (55, false), .fa 12, [.tm 3]⟩, ⟨some 59, some (55, false), .ld true 3 false, [.tm 58]⟩, ⟨some 60, some (55, false), .call 39, [.tm 57, .tm 59]⟩, ⟨some 61, some (55, false), .po (.un .not), [.tm 60]⟩, ⟨some 62, none, .pick, [.tm 55, .cn (.b true), .tm 61]⟩] [2, 3, 62]) (.cond (.tm 62) (.seq (.reg [⟨some 4, none, .mv, [.cn (.b false)]⟩] [4]) .ret) .skip)) (.seq (.reg [⟨some 64, none, .fa 6, [.tm 2]⟩, ⟨some 65, none, .ld true 3 false, [.tm 64]⟩, ⟨some 66, none, .call 40, [.tm 65]⟩, ⟨some 63, none, .mv, [.tm 66]⟩, ⟨some 67, none, .po (.ext 0), [.tm 63]⟩, ⟨some 68, none, .po (.ext 1), [.tm 63]⟩, ⟨some 69, none, .po (.ext 2), [.tm 63]⟩, ⟨some 5, none, .alloc [.b false, .sl 0 [] true], []⟩, ⟨some 6, none, .alloc [.b false, .sl 0 [] true], []⟩, ⟨none, none, .st 2, [.tm 5, .tm 67]⟩, ⟨none, none, .st 2, [.tm 6, .tm 68]⟩, ⟨some 7, none, .mv, [.tm 69]⟩] [3, 5, 6, 7]) (.seq (.reg [⟨some 71, none, .fa 6, [.tm 3]⟩, ⟨some 72, none, .ld true 3 false, [.tm 71]⟩, ⟨some 73, none, .call 40, [.tm 72]⟩, ⟨some 70, none, .mv, [.tm 73]⟩, ⟨some 74, none, .po (.ext 0), [.tm 70]⟩, ⟨some 75, none, .po (.ext 1), [.tm 70]⟩, ⟨some 76, none, .po (.ext 2), [.tm 70]⟩, ⟨some 8, none, .alloc [.b false, .sl 0 [] true], []⟩, ⟨some 9, none, .alloc [.b false, .sl 0 [] true], []⟩, ⟨none, none, .st 2, [.tm 8, .tm 74]⟩, ⟨none, none, .st 2, [.tm 9, .tm 75]⟩, ⟨some 10, none, .mv, [.tm 76]⟩] [5, 6, 7, 8, 9, 10]) (.seq (.seq (.reg [⟨some 77, none, .mv, [.tm 10]⟩, ⟨some 78, none, .po (.un .not), [.tm 77]⟩, ⟨some 79, none, .mv, [.tm 78]⟩, ⟨some 80, some (79, false), .mv, [.tm 7]⟩, ⟨some 81, some (79, false), .po (.un .not), [.tm 80]⟩, ⟨some 82, none, .pick, [.tm 79, .cn (.b true), .tm 81]⟩] [5, 6, 8, 9, 10, 82]) (.cond (.tm 82) (.seq (.reg [⟨some 83, none, .mv, [.tm 10]⟩, ⟨some 84, none, .po (.un .not), [.tm 83]⟩, ⟨some 4, none, .mv, [.tm 84]⟩] [4]) .ret) .skip)) (.seq (.reg [⟨some 86, none, .ld true 2 false, [.tm 5]⟩, ⟨some 87, none, .ld true 2 false, [.tm 8]⟩, ⟨some 88, none, .call 41, [.tm 86, .tm 87]⟩, ⟨some 89, none, .call 43, [.cn (.n .i64 32)]⟩, ⟨some 90, none, .call 42, [.tm 88, .tm 89]⟩, ⟨some 85, none, .mv, [.tm 90]⟩, ⟨some 91, none, .po (.ext 0), [.tm 85]⟩, ⟨some 92, none, .po (.ext 1), [.tm 85]⟩, ⟨some 11, none, .alloc [.b false, .sl 0 [] true], []⟩, ⟨some 12, none, .alloc [.b false, .sl 0 [] true], []⟩, ⟨none, none, .st 2, [.tm 11, .tm 91]⟩, ⟨none, none, .st 2, [.tm 12, .tm 92]⟩] [5, 6, 8, 9, 12]) (.seq (.dreg [⟨some 93, none, .ld true 2 false, [.tm 12]⟩, ⟨some 94, none, .ld true 2 false, [.tm 6]⟩, ⟨some 95, none, .call 44, [.tm 93, .tm 94]⟩, ⟨some 96, none, .ld true 2 false, [.tm 5]⟩, ⟨some 97, none, .call 41, [.tm 95, .tm 96]⟩, ⟨some 98, none, .ld true 2 false, [.tm 9]⟩, ⟨some 99, none, .ld true 2 false, [.tm 8]⟩, ⟨some 100, none, .call 41, [.tm 98, .tm 99]⟩, ⟨some 101, none, .call 45, [.tm 97, .tm 100]⟩, ⟨some 102, none, .po (.bin .leq), [.tm 101, .cn (.n .i64 0)]⟩, ⟨some 4, none, .mv, [.tm 102]⟩] [] [4]) .ret)))))), [.tm 4]⟩
theorem of14 : Fn1.of Tryz.prog 14 ⟨false, [], false⟩ [[2, 3], [2, 3, 62], [4], [3, 5, 6, 7], [5, 6, 7, 8, 9, 10], [5, 6, 8, 9, 10, 82], [4], [5, 6, 8, 9, 12], [4]] = some F14 := by kernel_rfl
/-- spyglass/alert.Inside -/
def F13 : Fn1 := ⟨59, .seq (.reg [⟨some 2, none, .box, [.tm 0]⟩, ⟨some 3, none, .box, [.tm 1]⟩, ⟨some 4, none, .mv, [.cn (.b false)]⟩] [2, 3]) (.seq (.reg [⟨some 5, none, .fa 0, [.tm 2]⟩, ⟨some 6, none, .ld false 1 false, [.tm 5]⟩, ⟨some 7, none, .fa 0, [.tm 3]⟩, ⟨some 8, none, .ld false 1 false, [.tm 7]⟩, ⟨some 9, none, .po (.bin .eql), [.tm 6, .tm 8]⟩, ⟨some 10, none, .mv, [.tm 9]⟩, ⟨some 11, some (10, true), .fa 1, [.tm 2]⟩, ⟨some 12, some (10, true), .ld false 1 false, [.tm 11]⟩, ⟨some 13, some (10, true), .fa 1, [.tm 3]⟩, ⟨some 14, some (10, true), .ld false 1 false, [.tm 13]⟩, ⟨some 15, some (10, true), .po (.bin .eql), [.tm 12, .tm 14]⟩, ⟨some 16, none, .pick, [.tm 10, .tm 15, .cn (.b false)]⟩, ⟨some 17, none, .mv, [.tm 16]⟩, ⟨some 18, some (17, true), .fa 2, [.tm 2]⟩, ⟨some 19, some (17, true), .ld false 1 false, [.tm 18]⟩, ⟨some 20, some (17, true), .fa 2, [.tm 3]⟩, ⟨some 21, some (17, true), .ld false 1 false, [.tm 20]⟩, ⟨some 22, some (17, true), .po (.bin .eql), [.tm 19, .tm 21]⟩, ⟨some 23, none, .pick, [.tm 17, .tm 22, .cn (.b false)]⟩, ⟨some 24, none, .mv, [.tm 23]⟩, ⟨some 25, some (24, true), .fa 15, [.tm 2]⟩, ⟨some 26, some (24, true), .ld false 1 false, [.tm 25]⟩, ⟨some 27, some (24, true), .fa 15, [.tm 3]⟩, ⟨some 28, some (24, true), .ld false 1 false, [.tm 27]⟩, ⟨some 29, some (24, true), .po (.bin .eql), [.tm 26, .tm 28]⟩, ⟨some 30, none, .pick, [.tm 24, .tm 29, .cn (.b false)]⟩, ⟨some 31, none, .mv, [.tm 30]⟩, ⟨some 32, some (31, true), .fa 3, [.tm 2]⟩, ⟨some 33, some (31, true), .ld true 3 false, [.tm 32]⟩, ⟨some 34, some (31, true), .fa 3, [.tm 3]⟩, ⟨some 35, some (31, true), .ld true 3 false, [.tm 34]⟩, ⟨some 36, some (31, true), .call 33, [.tm 33, .tm 35]⟩, ⟨some 37, none, .pick, [.tm 31, .tm 36, .cn (.b false)]⟩, ⟨some 38, none, .mv, [.tm 37]⟩, ⟨some 39, some (38, true), .fa 6, [.tm 2]⟩, ⟨some 40, some (38, true), .ld true 3 false, [.tm 39]⟩, ⟨some 41, some (38, true), .fa 6, [.tm 3]⟩, ⟨some 42, some (38, true), .ld true 3 false, [.tm 41]⟩, ⟨some 43, some (38, true), .call 34, [.tm 40, .tm 42]⟩, ⟨some 44, none, .pick, [.tm 38, .tm 43, .cn (.b false)]⟩, ⟨some 45, none, .mv, [.tm 44]⟩, ⟨some 46, some (45, true), .fa 9, [.tm 2]⟩, ⟨some 47, some (45, true), .ld true 3 false, [.tm 46]⟩, ⟨some 48, some (45, true), .fa 9, [.tm 3]⟩, ⟨some 49, some (45, true), .ld true 3 false, [.tm 48]⟩, ⟨some 50, some (45, true), .call 35, [.tm 47, .tm 49]⟩, ⟨some 51, none, .pick, [.tm 45, .tm 50, .cn (.b false)]⟩, ⟨some 52, none, .mv, [.tm 51]⟩, ⟨some 53, some (52, true), .fa 12, [.tm 2]⟩, ⟨some 54, some (52, true), .ld true 3 false, [.tm 53]⟩, ⟨some 55, some (52, true), .fa 12, [.tm 3]⟩, ⟨some 56, some (52, true), .ld true 3 false, [.tm 55]⟩, ⟨some 57, some (52, true), .call 36, [.tm 54, .tm 56]⟩, ⟨some 58, none, .pick, [.tm 52, .tm 57, .cn (.b false)]⟩, ⟨some 4, none, .mv, [.tm 58]⟩] [4]) .ret), [.tm 4]⟩
theorem of13 : Fn1.of Tryz.prog 13 ⟨false, [], false⟩ [[2, 3], [4]] = some F13 := by kernel_rfl
/-- One known part inside the other. -/
def inB : Bd → Bd → Bool
  | _, none => true
  | none, some _ => false
  | some a, some b => decide (b.1 ≤ a.1 ∧ a.2 ≤ b.2)
theorem insideTick (lo hi : Int) (u : Bool) (lo' hi' : Int) (u' : Bool) : Pure Tryz.prog 33 [bdV lo hi u, bdV lo' hi' u'] (.b (inB (normB lo hi u) (normB lo' hi' u'))) := by
  refine pure_of_wp of33 (Nat.le_of_ble_eq_true rfl) ?_
  refine CallK.mk _ (vagueTick lo' hi' u' lo' hi' u') rfl ?_
  rcases bd_cases lo' hi' u' with ⟨h1, _⟩ | ⟨h1, _, _, _⟩
  · rw [h1]
    refine DecK.tt ?_
    exact endV rfl (by cases normB lo hi u <;> rfl)
  rw [h1]
  refine DecK.ff ?_
  refine CallK.mk _ (vagueTick lo hi u lo hi u) rfl ?_
  rcases bd_cases lo hi u with ⟨h2, _⟩ | ⟨h2, _, _, _⟩
  · rw [h2]
    refine DecK.ff ?_
    refine DecK.ff ?_
    rfl
  rw [h2]
  refine DecK.tt ?_
  refine DecK.dec (fun h => ?_) (fun h => ?_)
  · refine endV rfl ?_
    simp [inB, h]
  · refine endV rfl ?_
    simp [inB, h]
theorem narrowerTick (lo hi : Int) (u : Bool) (lo' hi' : Int) (u' : Bool) : Pure Tryz.prog 37 [bdV lo hi u, bdV lo' hi' u'] (.b (inB (normB lo hi u) (normB lo' hi' u'))) := by
  refine pure_of_wp of37 (Nat.le_of_ble_eq_true rfl) ?_
  refine CallK.mk _ (sidesTick lo hi u) rfl ?_
  refine OptK.mk _ rfl ?_
  refine OptK.mk _ rfl ?_
  refine CallK.mk _ (sidesTick lo' hi' u') rfl ?_
  refine OptK.mk _ rfl ?_
  refine OptK.mk _ rfl ?_
  rcases bd_cases lo' hi' u' with ⟨h1, _⟩ | ⟨h1, _, h3, _⟩
  · rw [h1]
    refine DecK.tt ?_
    exact endV rfl (by cases normB lo hi u <;> rfl)
  rw [h1]
  refine DecK.ff ?_
  rcases bd_cases lo hi u with ⟨h2, _⟩ | ⟨h2, _, h4, _⟩
  · rw [h2]
    refine DecK.ff ?_
    refine DecK.ff ?_
    rfl
  rw [h2]
  unfold bval at h3 h4
  refine DecK.tt ?_
  refine CallK.mk _ (Cmp_ok lo lo' ((zb_64 (by omega)).mono (by decide)) ((zb_64 (by omega)).mono (by decide))) rfl ?_
  refine DecK.dec (fun h => ?_) (fun h => ?_)
  · rw [icmp_ge] at h
    refine CallK.mk _ (Cmp_ok hi hi' ((zb_64 (by omega)).mono (by decide)) ((zb_64 (by omega)).mono (by decide))) rfl ?_
    refine endV rfl ?_
    congr 1
    show decide (icmp hi hi' ≤ 0) = decide (lo' ≤ lo ∧ hi ≤ hi')
    rw [decide_eq_decide, icmp_le]
    exact ⟨fun g => ⟨h, g⟩, fun g => g.2⟩
  · rw [icmp_ge] at h
    refine endV rfl ?_
    congr 1
    exact (decide_eq_false (fun g => h g.1)).symm
theorem insideArc (lo hi : Int) (u : Bool) (lo' hi' : Int) (u' : Bool) : Pure Tryz.prog 35 [bdV lo hi u, bdV lo' hi' u'] (.b (inB (normB lo hi u) (normB lo' hi' u'))) := by
  refine pure_of_wp of35 (Nat.le_of_ble_eq_true rfl) ?_
  refine CallK.mk _ (vagueArc lo' hi' u' lo' hi' u') rfl ?_
  rcases bd_cases lo' hi' u' with ⟨h1, _⟩ | ⟨h1, _, _, _⟩
  · rw [h1]
    refine DecK.tt ?_
    exact endV rfl (by cases normB lo hi u <;> rfl)
  rw [h1]
  refine DecK.ff ?_
  refine CallK.mk _ (vagueArc lo hi u lo hi u) rfl ?_
  rcases bd_cases lo hi u with ⟨h2, _⟩ | ⟨h2, _, _, _⟩
  · rw [h2]
    refine DecK.ff ?_
    refine DecK.ff ?_
    rfl
  rw [h2]
  refine DecK.tt ?_
  refine DecK.dec (fun h => ?_) (fun h => ?_)
  · refine endV rfl ?_
    simp [inB, h]
  · refine endV rfl ?_
    simp [inB, h]
theorem narrowerArc (lo hi : Int) (u : Bool) (lo' hi' : Int) (u' : Bool) : Pure Tryz.prog 38 [bdV lo hi u, bdV lo' hi' u'] (.b (inB (normB lo hi u) (normB lo' hi' u'))) := by
  refine pure_of_wp of38 (Nat.le_of_ble_eq_true rfl) ?_
  refine CallK.mk _ (sidesArc lo hi u) rfl ?_
  refine OptK.mk _ rfl ?_
  refine OptK.mk _ rfl ?_
  refine CallK.mk _ (sidesArc lo' hi' u') rfl ?_
  refine OptK.mk _ rfl ?_
  refine OptK.mk _ rfl ?_
  rcases bd_cases lo' hi' u' with ⟨h1, _⟩ | ⟨h1, _, h3, _⟩
  · rw [h1]
    refine DecK.tt ?_
    exact endV rfl (by cases normB lo hi u <;> rfl)
  rw [h1]
  refine DecK.ff ?_
  rcases bd_cases lo hi u with ⟨h2, _⟩ | ⟨h2, _, h4, _⟩
  · rw [h2]
    refine DecK.ff ?_
    refine DecK.ff ?_
    rfl
  rw [h2]
  unfold bval at h3 h4
  refine DecK.tt ?_
  refine CallK.mk _ (Cmp_ok lo lo' ((zb_64 (by omega)).mono (by decide)) ((zb_64 (by omega)).mono (by decide))) rfl ?_
  refine DecK.dec (fun h => ?_) (fun h => ?_)
  · rw [icmp_ge] at h
    refine CallK.mk _ (Cmp_ok hi hi' ((zb_64 (by omega)).mono (by decide)) ((zb_64 (by omega)).mono (by decide))) rfl ?_
    refine endV rfl ?_
    congr 1
    show decide (icmp hi hi' ≤ 0) = decide (lo' ≤ lo ∧ hi ≤ hi')
    rw [decide_eq_decide, icmp_le]
    exact ⟨fun g => ⟨h, g⟩, fun g => g.2⟩
  · rw [icmp_ge] at h
    refine endV rfl ?_
    congr 1
    exact (decide_eq_false (fun g => h g.1)).symm
theorem insideQuanta (lo hi : Int) (u : Bool) (lo' hi' : Int) (u' : Bool) : Pure Tryz.prog 36 [bdV lo hi u, bdV lo' hi' u'] (.b (inB (normB lo hi u) (normB lo' hi' u'))) := by
  refine pure_of_wp of36 (Nat.le_of_ble_eq_true rfl) ?_
  refine CallK.mk _ (vagueQuanta lo' hi' u' lo' hi' u') rfl ?_
  rcases bd_cases lo' hi' u' with ⟨h1, _⟩ | ⟨h1, _, _, _⟩
  · rw [h1]
    refine DecK.tt ?_
    exact endV rfl (by cases normB lo hi u <;> rfl)
  rw [h1]
  refine DecK.ff ?_
  refine CallK.mk _ (vagueQuanta lo hi u lo hi u) rfl ?_
  rcases bd_cases lo hi u with ⟨h2, _⟩ | ⟨h2, _, _, _⟩
  · rw [h2]
    refine DecK.ff ?_
    refine DecK.ff ?_
    rfl
  rw [h2]
  refine DecK.tt ?_
  refine DecK.dec (fun h => ?_) (fun h => ?_)
  · refine endV rfl ?_
    simp [inB, h]
  · refine endV rfl ?_
    simp [inB, h]
theorem narrowerQuanta (lo hi : Int) (u : Bool) (lo' hi' : Int) (u' : Bool) : Pure Tryz.prog 39 [bdV lo hi u, bdV lo' hi' u'] (.b (inB (normB lo hi u) (normB lo' hi' u'))) := by
  refine pure_of_wp of39 (Nat.le_of_ble_eq_true rfl) ?_
  refine CallK.mk _ (sidesQuanta lo hi u) rfl ?_
  refine OptK.mk _ rfl ?_
  refine OptK.mk _ rfl ?_
  refine CallK.mk _ (sidesQuanta lo' hi' u') rfl ?_
  refine OptK.mk _ rfl ?_
  refine OptK.mk _ rfl ?_
  rcases bd_cases lo' hi' u' with ⟨h1, _⟩ | ⟨h1, _, h3, _⟩
  · rw [h1]
    refine DecK.tt ?_
    exact endV rfl (by cases normB lo hi u <;> rfl)
  rw [h1]
  refine DecK.ff ?_
  rcases bd_cases lo hi u with ⟨h2, _⟩ | ⟨h2, _, h4, _⟩
  · rw [h2]
    refine DecK.ff ?_
    refine DecK.ff ?_
    rfl
  rw [h2]
  unfold bval at h3 h4
  refine DecK.tt ?_
  refine CallK.mk _ (Cmp_ok lo lo' ((zb_64 (by omega)).mono (by decide)) ((zb_64 (by omega)).mono (by decide))) rfl ?_
  refine DecK.dec (fun h => ?_) (fun h => ?_)
  · rw [icmp_ge] at h
    refine CallK.mk _ (Cmp_ok hi hi' ((zb_64 (by omega)).mono (by decide)) ((zb_64 (by omega)).mono (by decide))) rfl ?_
    refine endV rfl ?_
    congr 1
    show decide (icmp hi hi' ≤ 0) = decide (lo' ≤ lo ∧ hi ≤ hi')
    rw [decide_eq_decide, icmp_le]
    exact ⟨fun g => ⟨h, g⟩, fun g => g.2⟩
  · rw [icmp_ge] at h
    refine endV rfl ?_
    congr 1
    exact (decide_eq_false (fun g => h g.1)).symm
/-- One known arc inside the other. -/
def arcIn : Bd → Bd → Bool
  | none, y => bUn y
  | some _, none => true
  | some a, some b => decide ((a.1 - b.1) % 4294967296 + a.2 - a.1 ≤ b.2 - b.1)
theorem and_low {a : Int} : IntKind.i64.wrap ((BitVec.ofInt IntKind.i64.bits a &&& BitVec.ofInt IntKind.i64.bits 4294967295).toNat : Nat) = a % 4294967296 := by
  have e1 : (BitVec.ofInt IntKind.i64.bits a &&& BitVec.ofInt IntKind.i64.bits 4294967295).toNat = (a % 18446744073709551616).toNat % 2 ^ 32 := by
    show (BitVec.ofInt 64 a &&& BitVec.ofInt 64 ((4294967295 : Nat) : Int)).toNat = _
    rw [BitVec.toNat_and, BitVec.ofInt_natCast, BitVec.toNat_ofNat, Nat.mod_eq_of_lt (by omega), show 4294967295 = 2 ^ 32 - 1 from rfl, Nat.and_two_pow_sub_one_eq_mod]
    rfl
  rw [e1, w64 (by omega)]
  omega
theorem arcInside_ok (lo hi : Int) (u : Bool) (lo' hi' : Int) (u' : Bool) : Pure Tryz.prog 34 [bdV lo hi u, bdV lo' hi' u'] (.b (arcIn (normB lo hi u) (normB lo' hi' u'))) := by
  refine pure_of_wp of34 (Nat.le_of_ble_eq_true rfl) ?_
  refine CallK.mk _ (normArc lo hi u) rfl ?_
  refine CallK.mk _ (normArc lo' hi' u') rfl ?_
  rcases bd_cases lo hi u with ⟨h2, _⟩ | ⟨h2, _, h4, _⟩
  · rw [h2]
    refine OptK.mk _ rfl ?_
    refine OptK.mk _ rfl ?_
    refine DecK.tt ?_
    refine DecK.tt ?_
    rfl
  rw [h2]
  refine OptK.mk _ rfl ?_
  refine OptK.mk _ rfl ?_
  refine DecK.ff ?_
  rcases bd_cases lo' hi' u' with ⟨h1, _⟩ | ⟨h1, _, h3, _⟩
  · rw [h1]
    refine DecK.tt ?_
    rfl
  rw [h1]
  unfold bval at h3 h4
  refine DecK.ff ?_
  refine endV rfl ?_
  congr 1
  have w1 := w64 (n := lo - lo') (by omega)
  have w2 := w64 (n := (lo - lo') % 4294967296 + hi) (by omega)
  have w3 := w64 (n := (lo - lo') % 4294967296 + hi - lo) (by omega)
  have w4 := w64 (n := hi' - lo') (by omega)
  have w5 := and_low (a := lo - lo')
  rw [← w1] at w5
  show decide (IntKind.i64.wrap (IntKind.i64.wrap (IntKind.i64.wrap ((BitVec.ofInt IntKind.i64.bits (IntKind.i64.wrap (lo - lo')) &&& BitVec.ofInt IntKind.i64.bits 4294967295).toNat : Nat) + hi) - lo) ≤ IntKind.i64.wrap (hi' - lo')) = _
  rw [w5, w1, w2, w3, w4]
  rfl
/-- An alert inside another. -/
def alIn (i k o t0 t1 : Int) (tu : Bool) (r0 r1 : Int) (ru : Bool) (d0 d1 : Int) (du : Bool) (q0 q1 : Int) (qu : Bool) (f : Int)
    (i' k' o' t0' t1' : Int) (tu' : Bool) (r0' r1' : Int) (ru' : Bool) (d0' d1' : Int) (du' : Bool) (q0' q1' : Int) (qu' : Bool) (f' : Int) : Bool :=
  decide (i = i' ∧ k = k' ∧ o = o' ∧ f = f') && (inB (normB t0 t1 tu) (normB t0' t1' tu') && (arcIn (normB r0 r1 ru) (normB r0' r1' ru') && (inB (normB d0 d1 du) (normB d0' d1' du') && inB (normB q0 q1 qu) (normB q0' q1' qu'))))
theorem alertInside_ok (i k o t0 t1 : Int) (tu : Bool) (r0 r1 : Int) (ru : Bool) (d0 d1 : Int) (du : Bool) (q0 q1 : Int) (qu : Bool) (f : Int)
    (i' k' o' t0' t1' : Int) (tu' : Bool) (r0' r1' : Int) (ru' : Bool) (d0' d1' : Int) (du' : Bool) (q0' q1' : Int) (qu' : Bool) (f' : Int) :
    Pure Tryz.prog 13 [.agg (alC i k o t0 t1 tu r0 r1 ru d0 d1 du q0 q1 qu f), .agg (alC i' k' o' t0' t1' tu' r0' r1' ru' d0' d1' du' q0' q1' qu' f')]
      (.b (alIn i k o t0 t1 tu r0 r1 ru d0 d1 du q0 q1 qu f i' k' o' t0' t1' tu' r0' r1' ru' d0' d1' du' q0' q1' qu' f')) := by
  refine pure_of_wp of13 (Nat.le_of_ble_eq_true rfl) ?_
  unfold alIn
  refine DecK.beq (fun h1 => ?_) (fun h1 => ?_)
  case refine_2 =>
    rw [decide_eq_false (fun h => h1 h.1)]
    repeat' (refine DecK.ff ?_)
    rfl
  refine DecK.beq (fun h2 => ?_) (fun h2 => ?_)
  case refine_2 =>
    rw [decide_eq_false (fun h => h2 h.2.1)]
    repeat' (refine DecK.ff ?_)
    rfl
  refine DecK.beq (fun h3 => ?_) (fun h3 => ?_)
  case refine_2 =>
    rw [decide_eq_false (fun h => h3 h.2.2.1)]
    repeat' (refine DecK.ff ?_)
    rfl
  refine DecK.beq (fun h4 => ?_) (fun h4 => ?_)
  case refine_2 =>
    rw [decide_eq_false (fun h => h4 h.2.2.2)]
    repeat' (refine DecK.ff ?_)
    rfl
  rw [decide_eq_true ⟨h1, h2, h3, h4⟩]
  refine CallK.mk _ (insideTick t0 t1 tu t0' t1' tu') rfl ?_
  generalize inB (normB t0 t1 tu) (normB t0' t1' tu') = x
  cases x
  · repeat' (refine DecK.ff ?_)
    rfl
  refine DecK.tt ?_
  refine CallK.mk _ (arcInside_ok r0 r1 ru r0' r1' ru') rfl ?_
  generalize arcIn (normB r0 r1 ru) (normB r0' r1' ru') = x
  cases x
  · repeat' (refine DecK.ff ?_)
    rfl
  refine DecK.tt ?_
  refine CallK.mk _ (insideArc d0 d1 du d0' d1' du') rfl ?_
  generalize inB (normB d0 d1 du) (normB d0' d1' du') = x
  cases x
  · repeat' (refine DecK.ff ?_)
    rfl
  refine DecK.tt ?_
  refine CallK.mk _ (insideQuanta q0 q1 qu q0' q1' qu') rfl ?_
  rfl
set_option maxHeartbeats 1000000 in
theorem insideRef_ok (i k o t0 t1 : Int) (tu : Bool) (r0 r1 : Int) (ru : Bool) (d0 d1 : Int) (du : Bool) (q0 q1 : Int) (qu : Bool) (f : Int)
    (i' k' o' t0' t1' : Int) (tu' : Bool) (r0' r1' : Int) (ru' : Bool) (d0' d1' : Int) (du' : Bool) (q0' q1' : Int) (qu' : Bool) (f' : Int) :
    Pure Tryz.prog 14 [.agg (alC i k o t0 t1 tu r0 r1 ru d0 d1 du q0 q1 qu f), .agg (alC i' k' o' t0' t1' tu' r0' r1' ru' d0' d1' du' q0' q1' qu' f')]
      (.b (alIn i k o t0 t1 tu r0 r1 ru d0 d1 du q0 q1 qu f i' k' o' t0' t1' tu' r0' r1' ru' d0' d1' du' q0' q1' qu' f')) := by
  refine pure_of_wp of14 (Nat.le_of_ble_eq_true rfl) ?_
  unfold alIn
  refine DecK.bne (fun h1 => ?_) (fun h1 => ?_)
  · rw [decide_eq_false (fun h => h1 h.1)]
    repeat' (refine DecK.tt ?_)
    rfl
  refine DecK.bne (fun h2 => ?_) (fun h2 => ?_)
  · rw [decide_eq_false (fun h => h2 h.2.1)]
    repeat' (refine DecK.tt ?_)
    rfl
  refine DecK.bne (fun h3 => ?_) (fun h3 => ?_)
  · rw [decide_eq_false (fun h => h3 h.2.2.1)]
    repeat' (refine DecK.tt ?_)
    rfl
  refine DecK.bne (fun h4 => ?_) (fun h4 => ?_)
  · rw [decide_eq_false (fun h => h4 h.2.2.2)]
    repeat' (refine DecK.tt ?_)
    rfl
  rw [decide_eq_true ⟨h1, h2, h3, h4⟩]
  refine CallK.mk _ (narrowerTick t0 t1 tu t0' t1' tu') rfl ?_
  generalize inB (normB t0 t1 tu) (normB t0' t1' tu') = x
  cases x
  · refine DecK.yes rfl ?_
    repeat' (refine DecK.tt ?_)
    rfl
  refine DecK.no rfl ?_
  refine CallK.mk _ (narrowerArc d0 d1 du d0' d1' du') rfl ?_
  generalize inB (normB d0 d1 du) (normB d0' d1' du') = x
  cases x
  · refine DecK.yes rfl ?_
    repeat' (refine DecK.tt ?_)
    exact endV rfl (by simp)
  refine DecK.no rfl ?_
  refine CallK.mk _ (narrowerQuanta q0 q1 qu q0' q1' qu') rfl ?_
  generalize inB (normB q0 q1 qu) (normB q0' q1' qu') = x
  cases x
  · refine DecK.yes rfl ?_
    exact endV rfl (by simp)
  refine DecK.no rfl ?_
  simp only [Bool.true_and, Bool.and_true]
  refine CallK.mk _ (sidesArc r0 r1 ru) rfl ?_
  refine OptK.mk _ rfl ?_
  refine OptK.mk _ rfl ?_
  refine CallK.mk _ (sidesArc r0' r1' ru') rfl ?_
  refine OptK.mk _ rfl ?_
  refine OptK.mk _ rfl ?_
  rcases bd_cases r0' r1' ru' with ⟨e1, _⟩ | ⟨e1, _, e3, _⟩
  · rw [e1]
    refine DecK.tt ?_
    refine DecK.tt ?_
    exact endV rfl (by cases normB r0 r1 ru <;> rfl)
  rw [e1]
  refine DecK.ff ?_
  rcases bd_cases r0 r1 ru with ⟨e2, _⟩ | ⟨e2, _, e4, _⟩
  · rw [e2]
    refine DecK.tt ?_
    rfl
  rw [e2]
  unfold bval at e3 e4
  refine DecK.ff ?_
  have z : ∀ {n : Int}, -18446744073709551616 ≤ n ∧ n ≤ 18446744073709551616 → zok n := fun h => (zb_64 h).mono (by decide)
  have z' : ∀ {n : Int}, -18446744073709551616 ≤ n ∧ n ≤ 18446744073709551616 → zb 900000 n := fun h => (zb_64 h).mono (by decide)
  refine CallK.mk _ (Less_ok r0 r0' (z (by omega)) (z (by omega))) rfl ?_
  refine CallK.mk _ (Two_ok 32 (by decide)) rfl ?_
  refine CallK.mk _ (Split_ok (r0 - r0') 4294967296 (z' (by omega)) (z' (by omega)) (by decide)) rfl ?_
  refine OptK.mk _ rfl ?_
  refine OptK.mk _ rfl ?_
  refine CallK.mk _ (Plus_ok ((r0 - r0') % 4294967296) r1 (z (by omega)) (z (by omega))) rfl ?_
  refine CallK.mk _ (Less_ok ((r0 - r0') % 4294967296 + r1) r0 (z (by omega)) (z (by omega))) rfl ?_
  refine CallK.mk _ (Less_ok r1' r0' (z (by omega)) (z (by omega))) rfl ?_
  refine CallK.mk _ (Cmp_ok ((r0 - r0') % 4294967296 + r1 - r0) (r1' - r0') (z (by omega)) (z (by omega))) rfl ?_
  refine endV rfl ?_
  congr 1
  show decide (icmp _ _ ≤ 0) = decide _
  rw [decide_eq_decide, icmp_le]
end Go.Proofs.YtljcbmnkjiogmaaGreatDoor.Sv

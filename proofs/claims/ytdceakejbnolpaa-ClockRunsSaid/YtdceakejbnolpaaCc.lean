/- Clocks: simulated clocks. No condition. -/
import Derived.Test.YtdceakejbnolpaaCb
namespace Go.Proofs.Ytdceakejbnolpaa.Sv
open Go Go.RowKit
set_option linter.unusedVariables false
set_option linter.unusedSimpArgs false
set_option maxRecDepth 100000
/-- A whole number's cells, its row tight or not. -/
abbrev zCt (g : Int) (t : Bool) : List V := [.b (decide (g < 0)), .sl (digs g.natAbs).length ((digs g.natAbs).flatMap ni) t]
theorem zT {g : Int} {t : Bool} : VLe (.agg (zCt g t)) (zV g) := by
  cases t
  · exact .refl _
  · exact VLes.agg (.cons (.refl _) (.cons .loose .nil))
theorem zCt_zero : zCt 0 true = [.b false, .sl 0 [] true] := by simp [zCt, digs_zero]
/-- live: [22, 23, 24] -/
def L33_0 : SC := .seq (.reg [⟨some 25, none, .po (.bin .lss), [.tm 24, .tm 23]⟩] [22, 23, 24, 25]) (.seq (.cond (.tm 25) .skip (.exit 1)) (.seq (.block 2 (.seq (.reg [⟨some 26, none, .ia none 2, [.tm 22, .tm 24]⟩, ⟨some 27, none, .ld true 2 true, [.tm 26]⟩, ⟨some 4, none, .alloc [.n .i64 0, .n .i64 0], []⟩, ⟨none, none, .st 2, [.tm 4, .tm 27]⟩] [4, 22, 23, 24]) (.seq (.reg [⟨some 28, none, .fa 0, [.tm 4]⟩, ⟨some 29, none, .ld false 1 false, [.tm 28]⟩, ⟨some 30, none, .po (.bin .lss), [.tm 29, .cn (.n .i64 0)]⟩, ⟨some 31, none, .mv, [.tm 30]⟩, ⟨some 32, some (31, false), .fa 0, [.tm 4]⟩, ⟨some 33, some (31, false), .ld false 1 false, [.tm 32]⟩, ⟨some 34, some (31, false), .po (.bin .gtr), [.tm 33, .cn (.n .i64 1099511627776)]⟩, ⟨some 35, none, .pick, [.tm 31, .cn (.b true), .tm 34]⟩, ⟨some 36, none, .mv, [.tm 35]⟩, ⟨some 37, some (36, false), .fa 1, [.tm 4]⟩, ⟨some 38, some (36, false), .ld false 1 false, [.tm 37]⟩, ⟨some 39, some (36, false), .po (.bin .lss), [.tm 38, .cn (.n .i64 (-100000))]⟩, ⟨some 40, none, .pick, [.tm 36, .cn (.b true), .tm 39]⟩, ⟨some 41, none, .mv, [.tm 40]⟩, ⟨some 42, some (41, false), .fa 1, [.tm 4]⟩, ⟨some 43, some (41, false), .ld false 1 false, [.tm 42]⟩, ⟨some 44, some (41, false), .po (.bin .gtr), [.tm 43, .cn (.n .i64 100000)]⟩, ⟨some 45, none, .pick, [.tm 41, .cn (.b true), .tm 44]⟩] [22, 23, 24, 45]) (.cond (.tm 45) (.seq (.reg [⟨some 2, none, .mv, [.cn (.n .i64 4)]⟩] [2]) .ret) .skip)))) (.reg [⟨some 46, none, .po (.bin .add), [.tm 24, .cn (.n .i64 1)]⟩, ⟨some 24, none, .mv, [.tm 46]⟩] [22, 23, 24])))
/-- spyglass/clock.CheckRun -/
def F33 : Fn1 := ⟨47, .seq (.reg [⟨some 1, none, .box, [.tm 0]⟩, ⟨some 2, none, .mv, [.cn (.n .i64 0)]⟩] [1]) (.seq (.block 0 (.seq (.reg [⟨some 6, none, .fa 0, [.tm 1]⟩, ⟨some 7, none, .ld false 1 false, [.tm 6]⟩, ⟨some 8, none, .call 72, [.tm 7]⟩, ⟨some 9, none, .po (.un .not), [.tm 8]⟩, ⟨some 10, none, .mv, [.tm 9]⟩, ⟨some 11, some (10, false), .fa 1, [.tm 1]⟩, ⟨some 12, some (10, false), .ld false 1 false, [.tm 11]⟩, ⟨some 13, some (10, false), .call 72, [.tm 12]⟩, ⟨some 14, some (10, false), .po (.un .not), [.tm 13]⟩, ⟨some 15, none, .pick, [.tm 10, .cn (.b true), .tm 14]⟩, ⟨some 5, none, .mv, [.tm 15]⟩] [1, 5]) (.cond (.tm 5) (.seq (.reg [⟨some 2, none, .mv, [.cn (.n .i64 4)]⟩] [2]) .ret) (.seq (.reg [⟨some 17, none, .fa 2, [.tm 1]⟩, ⟨some 18, none, .ld false 1 false, [.tm 17]⟩, ⟨some 19, none, .len false, [.tm 18]⟩, ⟨some 20, none, .po (.bin .gtr), [.tm 19, .cn (.n .i64 64)]⟩, ⟨some 16, none, .mv, [.tm 20]⟩] [1, 16]) (.cond (.tm 16) (.seq (.reg [⟨some 2, none, .mv, [.cn (.n .i64 2)]⟩] [2]) .ret) .skip))))) (.seq (.seq (.reg [⟨some 21, none, .fa 2, [.tm 1]⟩, ⟨some 22, none, .ld false 1 false, [.tm 21]⟩, ⟨some 23, none, .len false, [.tm 22]⟩, ⟨some 24, none, .mv, [.cn (.n .i64 0)]⟩] [22, 23, 24]) (.block 1 (.loop [22, 23, 24] L33_0))) (.seq (.reg [⟨some 2, none, .mv, [.cn (.n .i64 0)]⟩] [2]) .ret))), [.tm 2]⟩
theorem of33 : Fn1.of Try.prog 33 false [[1], [1, 5], [2], [1, 16], [2], [22, 23, 24], [22, 23, 24], [22, 23, 24, 25], [4, 22, 23, 24], [22, 23, 24, 45], [2], [22, 23, 24], [2]] = some F33 := by kernel_rfl
/-- live: [2, 7, 8, 38, 39, 40] -/
def L30_0 : SC := .seq (.reg [⟨some 41, none, .po (.bin .lss), [.tm 40, .tm 39]⟩] [2, 7, 8, 38, 39, 40, 41]) (.seq (.cond (.tm 41) .skip (.exit 0)) (.seq (.block 1 (.seq (.reg [⟨some 42, none, .ia none 2, [.tm 38, .tm 40]⟩, ⟨some 43, none, .ld true 2 true, [.tm 42]⟩, ⟨some 10, none, .alloc [.n .i64 0, .n .i64 0], []⟩, ⟨none, none, .st 2, [.tm 10, .tm 43]⟩] [2, 7, 8, 10, 38, 39, 40]) (.seq (.reg [⟨some 44, none, .mv, [.tm 8]⟩, ⟨some 45, none, .fa 0, [.tm 10]⟩, ⟨some 46, none, .ld false 1 false, [.tm 45]⟩, ⟨some 47, none, .po .mn, [.tm 44, .tm 46]⟩, ⟨some 11, none, .mv, [.tm 47]⟩] [2, 7, 8, 10, 11, 38, 39, 40]) (.seq (.reg [⟨some 48, none, .mv, [.tm 7]⟩, ⟨some 49, none, .mv, [.tm 11]⟩, ⟨some 50, none, .fa 1, [.tm 10]⟩, ⟨some 51, none, .ld false 1 false, [.tm 50]⟩, ⟨some 52, none, .po (.bin .add), [.cn (.n .i64 1000000), .tm 51]⟩, ⟨some 53, none, .po (.bin .mul), [.tm 49, .tm 52]⟩, ⟨some 54, none, .po (.bin .add), [.tm 48, .tm 53]⟩, ⟨some 7, none, .mv, [.tm 54]⟩] [2, 7, 8, 11, 38, 39, 40]) (.reg [⟨some 55, none, .mv, [.tm 8]⟩, ⟨some 56, none, .mv, [.tm 11]⟩, ⟨some 57, none, .po (.bin .sub), [.tm 55, .tm 56]⟩, ⟨some 8, none, .mv, [.tm 57]⟩] [2, 7, 8, 38, 39, 40]))))) (.reg [⟨some 58, none, .po (.bin .add), [.tm 40, .cn (.n .i64 1)]⟩, ⟨some 40, none, .mv, [.tm 58]⟩] [2, 7, 8, 38, 39, 40])))
/-- spyglass/clock.Reads -/
def F30 : Fn1 := ⟨68, .seq (.reg [⟨some 2, none, .box, [.tm 0]⟩, ⟨some 4, none, .mv, [.cn (.n .i64 0)]⟩, ⟨some 5, none, .mv, [.cn (.n .i64 0)]⟩] [1, 2]) (.seq (.seq (.reg [⟨some 12, none, .ld true 3 false, [.tm 2]⟩, ⟨some 13, none, .call 33, [.tm 12]⟩, ⟨some 6, none, .mv, [.tm 13]⟩] [1, 2, 6]) (.seq (.reg [⟨some 14, none, .mv, [.tm 6]⟩, ⟨some 15, none, .po (.bin .neq), [.tm 14, .cn (.n .i64 0)]⟩] [1, 2, 6, 15]) (.cond (.tm 15) (.seq (.reg [⟨some 16, none, .mv, [.tm 6]⟩, ⟨some 4, none, .mv, [.cn (.n .i64 0)]⟩, ⟨some 5, none, .mv, [.tm 16]⟩] [4, 5]) .ret) .skip))) (.seq (.seq (.reg [⟨some 17, none, .mv, [.tm 1]⟩, ⟨some 18, none, .call 72, [.tm 17]⟩, ⟨some 19, none, .po (.un .not), [.tm 18]⟩, ⟨some 20, none, .mv, [.tm 19]⟩, ⟨some 21, some (20, false), .mv, [.tm 1]⟩, ⟨some 22, some (20, false), .fa 1, [.tm 2]⟩, ⟨some 23, some (20, false), .ld false 1 false, [.tm 22]⟩, ⟨some 24, some (20, false), .po (.bin .lss), [.tm 21, .tm 23]⟩, ⟨some 25, none, .pick, [.tm 20, .cn (.b true), .tm 24]⟩, ⟨some 26, none, .mv, [.tm 25]⟩, ⟨some 27, some (26, false), .mv, [.tm 1]⟩, ⟨some 28, some (26, false), .fa 1, [.tm 2]⟩, ⟨some 29, some (26, false), .ld false 1 false, [.tm 28]⟩, ⟨some 30, some (26, false), .po (.bin .sub), [.tm 27, .tm 29]⟩, ⟨some 31, some (26, false), .po (.bin .gtr), [.tm 30, .cn (.n .i64 1099511627776)]⟩, ⟨some 32, none, .pick, [.tm 26, .cn (.b true), .tm 31]⟩] [1, 2, 32]) (.cond (.tm 32) (.seq (.reg [⟨some 4, none, .mv, [.cn (.n .i64 0)]⟩, ⟨some 5, none, .mv, [.cn (.n .i64 4)]⟩] [4, 5]) .ret) .skip)) (.seq (.dreg [⟨some 33, none, .mv, [.tm 1]⟩, ⟨some 34, none, .fa 1, [.tm 2]⟩, ⟨some 35, none, .ld false 1 false, [.tm 34]⟩, ⟨some 36, none, .po (.bin .sub), [.tm 33, .tm 35]⟩, ⟨some 7, none, .mv, [.cn (.n .i64 0)]⟩, ⟨some 8, none, .mv, [.tm 36]⟩] [] [2, 7, 8]) (.seq (.seq (.reg [⟨some 37, none, .fa 2, [.tm 2]⟩, ⟨some 38, none, .ld false 1 false, [.tm 37]⟩, ⟨some 39, none, .len false, [.tm 38]⟩, ⟨some 40, none, .mv, [.cn (.n .i64 0)]⟩] [2, 7, 8, 38, 39, 40]) (.block 0 (.loop [2, 7, 8, 38, 39, 40] L30_0))) (.seq (.reg [⟨some 59, none, .mv, [.tm 7]⟩, ⟨some 60, none, .mv, [.tm 8]⟩, ⟨some 61, none, .po (.bin .mul), [.tm 60, .cn (.n .i64 1000000)]⟩, ⟨some 62, none, .po (.bin .add), [.tm 59, .tm 61]⟩, ⟨some 7, none, .mv, [.tm 62]⟩] [2, 7]) (.seq (.reg [⟨some 63, none, .fa 0, [.tm 2]⟩, ⟨some 64, none, .ld false 1 false, [.tm 63]⟩, ⟨some 65, none, .mv, [.tm 7]⟩, ⟨some 66, none, .po (.bin .quo), [.tm 65, .cn (.n .i64 1000000)]⟩, ⟨some 67, none, .po (.bin .add), [.tm 64, .tm 66]⟩, ⟨some 4, none, .mv, [.tm 67]⟩, ⟨some 5, none, .mv, [.cn (.n .i64 0)]⟩] [4, 5]) .ret)))))), [.tm 4, .tm 5]⟩
theorem of30 : Fn1.of Try.prog 30 false [[1, 2], [1, 2, 6], [1, 2, 6, 15], [4, 5], [1, 2, 32], [4, 5], [2, 7, 8], [2, 7, 8, 38, 39, 40], [2, 7, 8, 38, 39, 40], [2, 7, 8, 38, 39, 40, 41], [2, 7, 8, 10, 38, 39, 40], [2, 7, 8, 10, 11, 38, 39, 40], [2, 7, 8, 11, 38, 39, 40], [2, 7, 8, 38, 39, 40], [2, 7, 8, 38, 39, 40], [2, 7], [4, 5]] = some F30 := by kernel_rfl
/-- live: [20, 21, 22] -/
def L34_0 : SC := .seq (.reg [⟨some 23, none, .po (.bin .lss), [.tm 22, .tm 21]⟩] [20, 21, 22, 23]) (.seq (.cond (.tm 23) .skip (.exit 0)) (.seq (.block 1 (.seq (.reg [⟨some 24, none, .ia none 2, [.tm 20, .tm 22]⟩, ⟨some 25, none, .ld true 2 true, [.tm 24]⟩, ⟨some 4, none, .alloc [.n .i64 0, .n .i64 0], []⟩, ⟨none, none, .st 2, [.tm 4, .tm 25]⟩] [4, 20, 21, 22]) (.seq (.reg [⟨some 26, none, .fa 0, [.tm 4]⟩, ⟨some 27, none, .ld false 1 false, [.tm 26]⟩, ⟨some 28, none, .po (.bin .gtr), [.tm 27, .cn (.n .i64 1099511627776)]⟩, ⟨some 29, none, .mv, [.tm 28]⟩, ⟨some 30, some (29, false), .fa 0, [.tm 4]⟩, ⟨some 31, some (29, false), .ld false 1 false, [.tm 30]⟩, ⟨some 32, some (29, false), .po (.bin .lss), [.tm 31, .cn (.n .i64 0)]⟩, ⟨some 33, none, .pick, [.tm 29, .cn (.b true), .tm 32]⟩, ⟨some 34, none, .mv, [.tm 33]⟩, ⟨some 35, some (34, false), .fa 1, [.tm 4]⟩, ⟨some 36, some (34, false), .ld false 1 false, [.tm 35]⟩, ⟨some 37, some (34, false), .po (.bin .gtr), [.tm 36, .cn (.n .i64 100000)]⟩, ⟨some 38, none, .pick, [.tm 34, .cn (.b true), .tm 37]⟩, ⟨some 39, none, .mv, [.tm 38]⟩, ⟨some 40, some (39, false), .fa 1, [.tm 4]⟩, ⟨some 41, some (39, false), .ld false 1 false, [.tm 40]⟩, ⟨some 42, some (39, false), .po (.bin .lss), [.tm 41, .cn (.n .i64 (-100000))]⟩, ⟨some 43, none, .pick, [.tm 39, .cn (.b true), .tm 42]⟩] [20, 21, 22, 43]) (.cond (.tm 43) (.seq (.reg [⟨some 2, none, .mv, [.cn (.n .i64 4)]⟩] [2]) .ret) .skip)))) (.reg [⟨some 44, none, .po (.bin .add), [.tm 22, .cn (.n .i64 1)]⟩, ⟨some 22, none, .mv, [.tm 44]⟩] [20, 21, 22])))
/-- spyglass/spyref1.RunErr -/
def F34 : Fn1 := ⟨45, .seq (.reg [⟨some 1, none, .box, [.tm 0]⟩, ⟨some 2, none, .mv, [.cn (.n .i64 0)]⟩] [1]) (.seq (.seq (.reg [⟨some 5, none, .fa 0, [.tm 1]⟩, ⟨some 6, none, .ld false 1 false, [.tm 5]⟩, ⟨some 7, none, .call 73, [.tm 6]⟩, ⟨some 8, none, .po (.un .not), [.tm 7]⟩, ⟨some 9, none, .mv, [.tm 8]⟩, ⟨some 10, some (9, false), .fa 1, [.tm 1]⟩, ⟨some 11, some (9, false), .ld false 1 false, [.tm 10]⟩, ⟨some 12, some (9, false), .call 73, [.tm 11]⟩, ⟨some 13, some (9, false), .po (.un .not), [.tm 12]⟩, ⟨some 14, none, .pick, [.tm 9, .cn (.b true), .tm 13]⟩] [1, 14]) (.cond (.tm 14) (.seq (.reg [⟨some 2, none, .mv, [.cn (.n .i64 4)]⟩] [2]) .ret) .skip)) (.seq (.seq (.reg [⟨some 15, none, .fa 2, [.tm 1]⟩, ⟨some 16, none, .ld false 1 false, [.tm 15]⟩, ⟨some 17, none, .len false, [.tm 16]⟩, ⟨some 18, none, .po (.bin .gtr), [.tm 17, .cn (.n .i64 64)]⟩] [1, 18]) (.cond (.tm 18) (.seq (.reg [⟨some 2, none, .mv, [.cn (.n .i64 2)]⟩] [2]) .ret) .skip)) (.seq (.seq (.reg [⟨some 19, none, .fa 2, [.tm 1]⟩, ⟨some 20, none, .ld false 1 false, [.tm 19]⟩, ⟨some 21, none, .len false, [.tm 20]⟩, ⟨some 22, none, .mv, [.cn (.n .i64 0)]⟩] [20, 21, 22]) (.block 0 (.loop [20, 21, 22] L34_0))) (.seq (.reg [⟨some 2, none, .mv, [.cn (.n .i64 0)]⟩] [2]) .ret)))), [.tm 2]⟩
theorem of34 : Fn1.of Try.prog 34 false [[1], [1, 14], [2], [1, 18], [2], [20, 21, 22], [20, 21, 22], [20, 21, 22, 23], [4, 20, 21, 22], [20, 21, 22, 43], [2], [20, 21, 22], [2]] = some F34 := by kernel_rfl
/-- live: [1, 2, 7, 8, 39, 40, 41] -/
def L31_0 : SC := .seq (.reg [⟨some 42, none, .po (.bin .lss), [.tm 41, .tm 40]⟩] [1, 2, 7, 8, 39, 40, 41, 42]) (.seq (.cond (.tm 42) .skip (.exit 0)) (.seq (.block 1 (.seq (.reg [⟨some 43, none, .ia none 2, [.tm 39, .tm 41]⟩, ⟨some 44, none, .ld true 2 true, [.tm 43]⟩, ⟨some 10, none, .alloc [.n .i64 0, .n .i64 0], []⟩, ⟨none, none, .st 2, [.tm 10, .tm 44]⟩] [1, 2, 7, 8, 10, 39, 40, 41]) (.seq (.reg [⟨some 45, none, .mv, [.tm 1]⟩, ⟨some 46, none, .mv, [.tm 8]⟩, ⟨some 47, none, .fa 0, [.tm 10]⟩, ⟨some 48, none, .ld false 1 false, [.tm 47]⟩, ⟨some 49, none, .po (.bin .add), [.tm 46, .tm 48]⟩, ⟨some 50, none, .po .mn, [.tm 45, .tm 49]⟩, ⟨some 11, none, .mv, [.tm 50]⟩] [1, 2, 7, 8, 10, 11, 39, 40, 41]) (.seq (.dreg [⟨some 51, none, .ld true 2 false, [.tm 7]⟩, ⟨some 52, none, .mv, [.tm 11]⟩, ⟨some 53, none, .mv, [.tm 8]⟩, ⟨some 54, none, .po (.bin .sub), [.tm 52, .tm 53]⟩, ⟨some 55, none, .call 15, [.tm 54]⟩, ⟨some 56, none, .fa 1, [.tm 10]⟩, ⟨some 57, none, .ld false 1 false, [.tm 56]⟩, ⟨some 58, none, .call 15, [.tm 57]⟩, ⟨some 59, none, .call 16, [.tm 55, .tm 58]⟩, ⟨some 60, none, .call 22, [.tm 51, .tm 59]⟩, ⟨none, none, .st 2, [.tm 7, .tm 60]⟩] [] [1, 2, 7, 11, 39, 40, 41]) (.reg [⟨some 61, none, .mv, [.tm 11]⟩, ⟨some 8, none, .mv, [.tm 61]⟩] [1, 2, 7, 8, 39, 40, 41]))))) (.reg [⟨some 62, none, .po (.bin .add), [.tm 41, .cn (.n .i64 1)]⟩, ⟨some 41, none, .mv, [.tm 62]⟩] [1, 2, 7, 8, 39, 40, 41])))
/-- spyglass/spyref1.ReadAt -/
def F31 : Fn1 := ⟨80, .seq (.reg [⟨some 2, none, .box, [.tm 0]⟩, ⟨some 4, none, .mv, [.cn (.n .i64 0)]⟩, ⟨some 5, none, .mv, [.cn (.n .i64 0)]⟩] [1, 2]) (.seq (.seq (.reg [⟨some 14, none, .ld true 3 false, [.tm 2]⟩, ⟨some 15, none, .call 34, [.tm 14]⟩, ⟨some 6, none, .mv, [.tm 15]⟩] [1, 2, 6]) (.seq (.reg [⟨some 16, none, .mv, [.tm 6]⟩, ⟨some 17, none, .po (.bin .neq), [.tm 16, .cn (.n .i64 0)]⟩] [1, 2, 6, 17]) (.cond (.tm 17) (.seq (.reg [⟨some 18, none, .mv, [.tm 6]⟩, ⟨some 4, none, .mv, [.cn (.n .i64 0)]⟩, ⟨some 5, none, .mv, [.tm 18]⟩] [4, 5]) .ret) .skip))) (.seq (.seq (.reg [⟨some 19, none, .mv, [.tm 1]⟩, ⟨some 20, none, .call 73, [.tm 19]⟩, ⟨some 21, none, .po (.un .not), [.tm 20]⟩, ⟨some 22, none, .mv, [.tm 21]⟩, ⟨some 23, some (22, false), .mv, [.tm 1]⟩, ⟨some 24, some (22, false), .fa 1, [.tm 2]⟩, ⟨some 25, some (22, false), .ld false 1 false, [.tm 24]⟩, ⟨some 26, some (22, false), .po (.bin .lss), [.tm 23, .tm 25]⟩, ⟨some 27, none, .pick, [.tm 22, .cn (.b true), .tm 26]⟩, ⟨some 28, none, .mv, [.tm 27]⟩, ⟨some 29, some (28, false), .mv, [.tm 1]⟩, ⟨some 30, some (28, false), .fa 1, [.tm 2]⟩, ⟨some 31, some (28, false), .ld false 1 false, [.tm 30]⟩, ⟨some 32, some (28, false), .po (.bin .sub), [.tm 29, .tm 31]⟩, ⟨some 33, some (28, false), .po (.bin .gtr), [.tm 32, .cn (.n .i64 1099511627776)]⟩, ⟨some 34, none, .pick, [.tm 28, .cn (.b true), .tm 33]⟩] [1, 2, 34]) (.cond (.tm 34) (.seq (.reg [⟨some 4, none, .mv, [.cn (.n .i64 0)]⟩, ⟨some 5, none, .mv, [.cn (.n .i64 4)]⟩] [4, 5]) .ret) .skip)) (.seq (.reg [⟨some 35, none, .po (.build [.b false, .sl 0 [] true] []), []⟩, ⟨some 7, none, .alloc [.b false, .sl 0 [] true], []⟩, ⟨none, none, .st 2, [.tm 7, .tm 35]⟩] [1, 2, 7]) (.seq (.reg [⟨some 36, none, .fa 1, [.tm 2]⟩, ⟨some 37, none, .ld false 1 false, [.tm 36]⟩, ⟨some 8, none, .mv, [.tm 37]⟩] [1, 2, 7, 8]) (.seq (.seq (.reg [⟨some 38, none, .fa 2, [.tm 2]⟩, ⟨some 39, none, .ld false 1 false, [.tm 38]⟩, ⟨some 40, none, .len false, [.tm 39]⟩, ⟨some 41, none, .mv, [.cn (.n .i64 0)]⟩] [1, 2, 7, 8, 39, 40, 41]) (.block 0 (.loop [1, 2, 7, 8, 39, 40, 41] L31_0))) (.seq (.dreg [⟨some 64, none, .ld true 2 false, [.tm 7]⟩, ⟨some 65, none, .call 15, [.cn (.n .i64 1000000)]⟩, ⟨some 66, none, .call 66, [.tm 64, .tm 65]⟩, ⟨some 67, none, .fa 0, [.tm 2]⟩, ⟨some 68, none, .ld false 1 false, [.tm 67]⟩, ⟨some 69, none, .mv, [.tm 1]⟩, ⟨some 70, none, .po (.bin .add), [.tm 68, .tm 69]⟩, ⟨some 71, none, .fa 1, [.tm 2]⟩, ⟨some 72, none, .ld false 1 false, [.tm 71]⟩, ⟨some 73, none, .po (.bin .sub), [.tm 70, .tm 72]⟩, ⟨some 74, none, .call 15, [.tm 73]⟩, ⟨some 75, none, .call 22, [.tm 66, .tm 74]⟩, ⟨some 76, none, .call 64, [.tm 75]⟩, ⟨some 63, none, .mv, [.tm 76]⟩, ⟨some 77, none, .po (.ext 0), [.tm 63]⟩, ⟨some 78, none, .po (.ext 1), [.tm 63]⟩, ⟨some 12, none, .mv, [.tm 77]⟩, ⟨some 13, none, .mv, [.tm 78]⟩] [] [12]) (.seq (.reg [⟨some 79, none, .mv, [.tm 12]⟩, ⟨some 4, none, .mv, [.tm 79]⟩, ⟨some 5, none, .mv, [.cn (.n .i64 0)]⟩] [4, 5]) .ret))))))), [.tm 4, .tm 5]⟩
theorem of31 : Fn1.of Try.prog 31 false [[1, 2], [1, 2, 6], [1, 2, 6, 17], [4, 5], [1, 2, 34], [4, 5], [1, 2, 7], [1, 2, 7, 8], [1, 2, 7, 8, 39, 40, 41], [1, 2, 7, 8, 39, 40, 41], [1, 2, 7, 8, 39, 40, 41, 42], [1, 2, 7, 8, 10, 39, 40, 41], [1, 2, 7, 8, 10, 11, 39, 40, 41], [1, 2, 7, 11, 39, 40, 41], [1, 2, 7, 8, 39, 40, 41], [1, 2, 7, 8, 39, 40, 41], [12], [4, 5]] = some F31 := by kernel_rfl
/-- spyglass/spylaw1.ClockRuns -/
def F6 : Fn1 := ⟨39, .seq (.reg [⟨some 2, none, .box, [.tm 0]⟩, ⟨some 4, none, .mv, [.cn (.b false)]⟩] [1, 2]) (.seq (.reg [⟨some 10, none, .ld true 3 false, [.tm 2]⟩, ⟨some 11, none, .mv, [.tm 1]⟩, ⟨some 12, none, .call 30, [.tm 10, .tm 11]⟩, ⟨some 9, none, .mv, [.tm 12]⟩, ⟨some 13, none, .po (.ext 0), [.tm 9]⟩, ⟨some 14, none, .po (.ext 1), [.tm 9]⟩, ⟨some 5, none, .mv, [.tm 13]⟩, ⟨some 6, none, .mv, [.tm 14]⟩] [1, 2, 5, 6]) (.seq (.reg [⟨some 16, none, .ld true 3 false, [.tm 2]⟩, ⟨some 17, none, .mv, [.tm 1]⟩, ⟨some 18, none, .call 31, [.tm 16, .tm 17]⟩, ⟨some 15, none, .mv, [.tm 18]⟩, ⟨some 19, none, .po (.ext 0), [.tm 15]⟩, ⟨some 20, none, .po (.ext 1), [.tm 15]⟩, ⟨some 7, none, .mv, [.tm 19]⟩, ⟨some 8, none, .mv, [.tm 20]⟩] [2, 5, 6, 7, 8]) (.seq (.dreg [⟨some 21, none, .call 32, []⟩, ⟨some 22, none, .mv, [.tm 21]⟩, ⟨some 23, some (22, true), .ld true 3 false, [.tm 2]⟩, ⟨some 24, some (22, true), .call 33, [.tm 23]⟩, ⟨some 25, some (22, true), .ld true 3 false, [.tm 2]⟩, ⟨some 26, some (22, true), .call 34, [.tm 25]⟩, ⟨some 27, some (22, true), .po (.bin .eql), [.tm 24, .tm 26]⟩, ⟨some 28, none, .pick, [.tm 22, .tm 27, .cn (.b false)]⟩, ⟨some 29, none, .mv, [.tm 28]⟩, ⟨some 30, some (29, true), .mv, [.tm 5]⟩, ⟨some 31, some (29, true), .mv, [.tm 7]⟩, ⟨some 32, some (29, true), .po (.bin .eql), [.tm 30, .tm 31]⟩, ⟨some 33, none, .pick, [.tm 29, .tm 32, .cn (.b false)]⟩, ⟨some 34, none, .mv, [.tm 33]⟩, ⟨some 35, some (34, true), .mv, [.tm 6]⟩, ⟨some 36, some (34, true), .mv, [.tm 8]⟩, ⟨some 37, some (34, true), .po (.bin .eql), [.tm 35, .tm 36]⟩, ⟨some 38, none, .pick, [.tm 34, .tm 37, .cn (.b false)]⟩, ⟨some 4, none, .mv, [.tm 38]⟩] [] [4]) .ret))), [.tm 4]⟩
theorem of6 : Fn1.of Try.prog 6 false [[1, 2], [1, 2, 5, 6], [2, 5, 6, 7, 8], [4]] = some F6 := by kernel_rfl
theorem at_ex {α : Type} {l : List α} {k : Nat} (h : k < l.length) : ∃ x, l[k]? = some x ∧ l.drop k = x :: l.drop (k + 1) ∧ x ∈ l := ⟨l[k], by simp [h], List.drop_eq_getElem_cons h, List.getElem_mem h⟩
abbrev LegT := Int × Int × Unit
@[reducible] def legC (x : LegT) : List V := [.n .i64 x.1, .n .i64 x.2.1]
theorem legz : ∀ x, (legC x).length = 2 := fun _ => rfl
abbrev runV (s a : Int) (l : List LegT) : V := .agg [.n .i64 s, .n .i64 a, rowV legC l]
def legOk (x : LegT) : Prop := 0 ≤ x.1 ∧ x.1 ≤ 1099511627776 ∧ -100000 ≤ x.2.1 ∧ x.2.1 ≤ 100000
instance (x : LegT) : Decidable (legOk x) := by unfold legOk; infer_instance
def legsErr : List LegT → Int
  | [] => 0
  | x :: r => if legOk x then legsErr r else 4
theorem legsErr_all : ∀ {l : List LegT}, legsErr l = 0 → ∀ x ∈ l, legOk x
  | [], _, x, h => by cases h
  | y :: r, h, x, hx => by
    unfold legsErr at h
    split at h
    · rcases List.mem_cons.1 hx with rfl | hx
      · assumption
      · exact legsErr_all h x hx
    · cases h
def runErr (s a : Int) (l : List LegT) : Int := if inT s ∧ inT a then (if l.length > 64 then 2 else legsErr l) else 4
theorem runErr_zero {s a : Int} {l : List LegT} (h : runErr s a l = 0) : inT s ∧ inT a ∧ l.length ≤ 64 ∧ legsErr l = 0 := by
  unfold runErr at h
  split at h
  · rename_i h'
    split at h
    · cases h
    · exact ⟨h'.1, h'.2, by omega, h⟩
  · cases h
theorem checkRun_ok (s a : Int) (l : List LegT) (hl : l.length ≤ 9000000000000000000) : Pure Try.prog 33 [runV s a l] (.n .i64 (runErr s a l)) := by
  refine pure_of_wp of33 (Nat.le_of_ble_eq_true rfl) ?_
  refine CallK.mk _ (inTime1 s) rfl ?_
  by_cases hs : inT s
  case neg =>
    refine DecK.yes (by simp [hs]) ?_
    repeat' first | (refine DecK.yes (by simp [hs]) ?_) | refine DecK.tt ?_ | refine DecK.ff ?_ | refine DecK.beq (fun _ => ?_) (fun _ => ?_) | refine DecK.bne (fun _ => ?_) (fun _ => ?_) | refine DecK.dec (fun _ => ?_) (fun _ => ?_) | refine OptK.mk _ rfl ?_ | refine endV (by rfl) ?_
    rw [runErr, if_neg (fun h => hs h.1)]
  refine DecK.no (by simp [hs]) ?_
  refine CallK.mk _ (inTime1 a) rfl ?_
  by_cases ha : inT a
  case neg =>
    refine DecK.yes (by simp [ha]) ?_
    repeat' first | (refine DecK.yes (by simp [ha]) ?_) | refine DecK.tt ?_ | refine DecK.ff ?_ | refine DecK.beq (fun _ => ?_) (fun _ => ?_) | refine DecK.bne (fun _ => ?_) (fun _ => ?_) | refine DecK.dec (fun _ => ?_) (fun _ => ?_) | refine OptK.mk _ rfl ?_ | refine endV (by rfl) ?_
    rw [runErr, if_neg (fun h => ha h.2)]
  refine DecK.no (by simp [ha]) ?_
  have eR : runErr s a l = if l.length > 64 then 2 else legsErr l := by rw [runErr, if_pos ⟨hs, ha⟩]
  rw [eR]
  refine DecK.dec (fun h => ?_) (fun h => ?_)
  · ((repeat' first | refine DecK.tt ?_ | refine DecK.ff ?_ | refine DecK.beq (fun _ => ?_) (fun _ => ?_) | refine DecK.bne (fun _ => ?_) (fun _ => ?_) | refine DecK.dec (fun _ => ?_) (fun _ => ?_) | refine OptK.mk _ rfl ?_ | refine endV (by rfl) ?_) <;> (try with_reducible rfl))
    rw [if_pos (by omega)]
  have eR2 : (if l.length > 64 then 2 else legsErr l) = legsErr l := by rw [if_neg (by omega)]
  rw [eR2]
  refine loop_ind (fun i : Int => ⟨[(22, .v (rowV legC l)), (23, .v (.n .i64 l.length)), (24, .v (.n .i64 i))], []⟩) (fun i => l.length - i.toNat) (fun i => 0 ≤ i ∧ i ≤ l.length ∧ legsErr (l.drop i.toNat) = legsErr l) _ (by simp) ?_
  intro iz ⟨h1, h2, h3⟩ ih
  obtain ⟨i, rfl⟩ : ∃ i : Nat, iz = i := ⟨iz.toNat, by omega⟩
  simp only [Int.toNat_natCast] at h3
  refine DecK.dec (fun h => ?_) (fun h => ?_)
  · obtain ⟨x, hx, ex, _⟩ := at_ex (l := l) (k := i) (by omega)
    have wi : IntKind.i64.wrap ((i : Int) + 1) = ((i + 1 : Nat) : Int) := by simp (discharger := omega) only [w64, wu64, wu8, w32, wu32, tdivC, tmodC]; omega
    rw [ex, legsErr] at h3
    refine OptK.mk _ (ria i rfl (by omega)) ?_
    refine OptK.mk _ (rld legz hx) ?_
    ((repeat' first | refine DecK.tt ?_ | refine DecK.ff ?_ | refine DecK.beq (fun _ => ?_) (fun _ => ?_) | refine DecK.bne (fun _ => ?_) (fun _ => ?_) | refine DecK.dec (fun _ => ?_) (fun _ => ?_) | refine OptK.mk _ rfl ?_ | refine endV (by rfl) ?_) <;> (try with_reducible rfl))
    all_goals first
      | (refine ih _ ⟨?_, ?_, ?_⟩ ?_ <;> simp only [wi, Int.toNat_natCast] <;> first | omega | (rw [if_pos (by unfold legOk; omega)] at h3; exact h3))
      | (rw [if_neg (by unfold legOk; omega)] at h3; rw [h3])
  · ((repeat' first | refine DecK.tt ?_ | refine DecK.ff ?_ | refine DecK.beq (fun _ => ?_) (fun _ => ?_) | refine DecK.bne (fun _ => ?_) (fun _ => ?_) | refine DecK.dec (fun _ => ?_) (fun _ => ?_) | refine OptK.mk _ rfl ?_ | refine endV (by rfl) ?_) <;> (try with_reducible rfl))
    rw [List.drop_eq_nil_of_le (by omega), legsErr] at h3
    rw [h3]
theorem runErr_ok (s a : Int) (l : List LegT) (hl : l.length ≤ 9000000000000000000) : Pure Try.prog 34 [runV s a l] (.n .i64 (runErr s a l)) := by
  refine pure_of_wp of34 (Nat.le_of_ble_eq_true rfl) ?_
  refine CallK.mk _ (inTime2 s) rfl ?_
  by_cases hs : inT s
  case neg =>
    refine DecK.yes (by simp [hs]) ?_
    repeat' first | (refine DecK.yes (by simp [hs]) ?_) | refine DecK.tt ?_ | refine DecK.ff ?_ | refine DecK.beq (fun _ => ?_) (fun _ => ?_) | refine DecK.bne (fun _ => ?_) (fun _ => ?_) | refine DecK.dec (fun _ => ?_) (fun _ => ?_) | refine OptK.mk _ rfl ?_ | refine endV (by rfl) ?_
    rw [runErr, if_neg (fun h => hs h.1)]
  refine DecK.no (by simp [hs]) ?_
  refine CallK.mk _ (inTime2 a) rfl ?_
  by_cases ha : inT a
  case neg =>
    refine DecK.yes (by simp [ha]) ?_
    repeat' first | (refine DecK.yes (by simp [ha]) ?_) | refine DecK.tt ?_ | refine DecK.ff ?_ | refine DecK.beq (fun _ => ?_) (fun _ => ?_) | refine DecK.bne (fun _ => ?_) (fun _ => ?_) | refine DecK.dec (fun _ => ?_) (fun _ => ?_) | refine OptK.mk _ rfl ?_ | refine endV (by rfl) ?_
    rw [runErr, if_neg (fun h => ha h.2)]
  refine DecK.no (by simp [ha]) ?_
  have eR : runErr s a l = if l.length > 64 then 2 else legsErr l := by rw [runErr, if_pos ⟨hs, ha⟩]
  rw [eR]
  refine DecK.dec (fun h => ?_) (fun h => ?_)
  · ((repeat' first | refine DecK.tt ?_ | refine DecK.ff ?_ | refine DecK.beq (fun _ => ?_) (fun _ => ?_) | refine DecK.bne (fun _ => ?_) (fun _ => ?_) | refine DecK.dec (fun _ => ?_) (fun _ => ?_) | refine OptK.mk _ rfl ?_ | refine endV (by rfl) ?_) <;> (try with_reducible rfl))
    rw [if_pos (by omega)]
  have eR2 : (if l.length > 64 then 2 else legsErr l) = legsErr l := by rw [if_neg (by omega)]
  rw [eR2]
  refine loop_ind (fun i : Int => ⟨[(20, .v (rowV legC l)), (21, .v (.n .i64 l.length)), (22, .v (.n .i64 i))], []⟩) (fun i => l.length - i.toNat) (fun i => 0 ≤ i ∧ i ≤ l.length ∧ legsErr (l.drop i.toNat) = legsErr l) _ (by simp) ?_
  intro iz ⟨h1, h2, h3⟩ ih
  obtain ⟨i, rfl⟩ : ∃ i : Nat, iz = i := ⟨iz.toNat, by omega⟩
  simp only [Int.toNat_natCast] at h3
  refine DecK.dec (fun h => ?_) (fun h => ?_)
  · obtain ⟨x, hx, ex, _⟩ := at_ex (l := l) (k := i) (by omega)
    have wi : IntKind.i64.wrap ((i : Int) + 1) = ((i + 1 : Nat) : Int) := by simp (discharger := omega) only [w64, wu64, wu8, w32, wu32, tdivC, tmodC]; omega
    rw [ex, legsErr] at h3
    refine OptK.mk _ (ria i rfl (by omega)) ?_
    refine OptK.mk _ (rld legz hx) ?_
    ((repeat' first | refine DecK.tt ?_ | refine DecK.ff ?_ | refine DecK.beq (fun _ => ?_) (fun _ => ?_) | refine DecK.bne (fun _ => ?_) (fun _ => ?_) | refine DecK.dec (fun _ => ?_) (fun _ => ?_) | refine OptK.mk _ rfl ?_ | refine endV (by rfl) ?_) <;> (try with_reducible rfl))
    all_goals first
      | (refine ih _ ⟨?_, ?_, ?_⟩ ?_ <;> simp only [wi, Int.toNat_natCast] <;> first | omega | (rw [if_pos (by unfold legOk; omega)] at h3; exact h3))
      | (rw [if_neg (by unfold legOk; omega)] at h3; rw [h3])
  · ((repeat' first | refine DecK.tt ?_ | refine DecK.ff ?_ | refine DecK.beq (fun _ => ?_) (fun _ => ?_) | refine DecK.bne (fun _ => ?_) (fun _ => ?_) | refine DecK.dec (fun _ => ?_) (fun _ => ?_) | refine OptK.mk _ rfl ?_ | refine endV (by rfl) ?_) <;> (try with_reducible rfl))
    rw [List.drop_eq_nil_of_le (by omega), legsErr] at h3
    rw [h3]
/-- What the legs add. -/
def gainF : Int → List LegT → Int
  | _, [] => 0
  | left, x :: r => min left x.1 * x.2.1 + gainF (left - min left x.1) r
def readErr (s a : Int) (l : List LegT) (t : Int) : Int := if runErr s a l ≠ 0 then runErr s a l else if inT t ∧ a ≤ t ∧ t - a ≤ 1099511627776 then 0 else 4
def readF (s a : Int) (l : List LegT) (t : Int) : Int := if readErr s a l t = 0 then s + (t - a) + gainF (t - a) l / 1000000 else 0
theorem gain_in : ∀ {l : List LegT} {left : Int}, (∀ x ∈ l, legOk x) → 0 ≤ left → -(left * 100000) ≤ gainF left l ∧ gainF left l ≤ left * 100000
  | [], left, _, h => by simp only [gainF]; omega
  | x :: r, left, hx, h => by
    have h1 := hx x (by simp)
    unfold legOk at h1
    have := gain_in (l := r) (left := left - min left x.1) (fun y hy => hx y (by simp [hy])) (by omega)
    have a1 := Int.mul_le_mul_of_nonneg_left (show x.2.1 ≤ 100000 by omega) (show 0 ≤ min left x.1 by omega)
    have a2 := Int.mul_le_mul_of_nonneg_left (show -100000 ≤ x.2.1 by omega) (show 0 ≤ min left x.1 by omega)
    simp only [gainF]
    omega
theorem reads_ok (s a : Int) (l : List LegT) (t : Int) (hl : l.length ≤ 9000000000000000000) : Pure Try.prog 30 [runV s a l, .n .i64 t] (.tup [.n .i64 (readF s a l t), .n .i64 (readErr s a l t)]) := by
  refine pure_of_wp of30 (Nat.le_of_ble_eq_true rfl) ?_
  refine CallK.mk _ (checkRun_ok s a l hl) rfl ?_
  refine DecK.bne (fun h => ?_) (fun h => ?_)
  · ((repeat' first | refine DecK.tt ?_ | refine DecK.ff ?_ | refine DecK.beq (fun _ => ?_) (fun _ => ?_) | refine DecK.bne (fun _ => ?_) (fun _ => ?_) | refine DecK.dec (fun _ => ?_) (fun _ => ?_) | refine OptK.mk _ rfl ?_ | refine endV (by rfl) ?_) <;> (try with_reducible rfl))
    have e : readErr s a l t = runErr s a l := by rw [readErr, if_pos h]
    rw [readF, e, if_neg h]
  obtain ⟨h1, h2, h3, h4⟩ := runErr_zero h
  have e0 : readErr s a l t = if inT t ∧ a ≤ t ∧ t - a ≤ 1099511627776 then 0 else 4 := by rw [readErr, if_neg (by simp [h])]
  refine CallK.mk _ (inTime1 t) rfl ?_
  by_cases ht : inT t
  case neg =>
    refine DecK.yes (by simp [ht]) ?_
    repeat' first | (refine DecK.yes (by simp [ht]) ?_) | refine DecK.tt ?_ | refine DecK.ff ?_ | refine DecK.beq (fun _ => ?_) (fun _ => ?_) | refine DecK.bne (fun _ => ?_) (fun _ => ?_) | refine DecK.dec (fun _ => ?_) (fun _ => ?_) | refine OptK.mk _ rfl ?_ | refine endV (by rfl) ?_
    rw [if_neg (fun g => ht g.1)] at e0
    rw [readF, e0]; rfl
  refine DecK.no (by simp [ht]) ?_
  have ht' := ht
  unfold inT at h1 h2 ht
  have w1 : IntKind.i64.wrap (t - a) = t - a := w64 (by omega)
  refine DecK.dec (fun hs => ?_) (fun hs => ?_)
  · ((repeat' first | refine DecK.tt ?_ | refine DecK.ff ?_ | refine DecK.beq (fun _ => ?_) (fun _ => ?_) | refine DecK.bne (fun _ => ?_) (fun _ => ?_) | refine DecK.dec (fun _ => ?_) (fun _ => ?_) | refine OptK.mk _ rfl ?_ | refine endV (by rfl) ?_) <;> (try with_reducible rfl))
    rw [if_neg (fun g => by omega)] at e0
    rw [readF, e0]; rfl
  refine DecK.dec (fun hm => ?_) (fun hm => ?_)
  · rw [w1] at hm
    ((repeat' first | refine DecK.tt ?_ | refine DecK.ff ?_ | refine DecK.beq (fun _ => ?_) (fun _ => ?_) | refine DecK.bne (fun _ => ?_) (fun _ => ?_) | refine DecK.dec (fun _ => ?_) (fun _ => ?_) | refine OptK.mk _ rfl ?_ | refine endV (by rfl) ?_) <;> (try with_reducible rfl))
    rw [if_neg (fun g => by omega)] at e0
    rw [readF, e0]; rfl
  rw [w1] at hm
  rw [if_pos ⟨ht', by omega, by omega⟩] at e0
  have eF : readF s a l t = s + (t - a) + gainF (t - a) l / 1000000 := by rw [readF, if_pos e0]
  rw [eF, e0]
  have hG := gain_in (legsErr_all h4) (left := t - a) (by omega)
  have hall := legsErr_all h4
  refine loop_ind3 (fun (sum left i : Int) => ⟨[(2, .ref 2 0), (7, .v (.n .i64 sum)), (8, .v (.n .i64 left)), (38, .v (rowV legC l)), (39, .v (.n .i64 l.length)), (40, .v (.n .i64 i))], [(2, [.n .i64 s, .n .i64 a, rowV legC l])]⟩) (fun sum left i => l.length - i.toNat)
    (fun sum left i => 0 ≤ i ∧ i ≤ l.length ∧ 0 ≤ left ∧ left ≤ t - a ∧ 0 ≤ sum ∧ sum ≤ (t - a - left) * 1100000 ∧ sum + left * 1000000 + gainF left (l.drop i.toNat) = (t - a) * 1000000 + gainF (t - a) l) _ _ _ (by rw [w1]; simp; omega) ?_
  intro sum left iz ⟨g1, g2, g3, g4, g5, g6, g7⟩ ih
  obtain ⟨i, rfl⟩ : ∃ i : Nat, iz = i := ⟨iz.toNat, by omega⟩
  simp only [Int.toNat_natCast] at g7
  refine DecK.dec (fun h => ?_) (fun h => ?_)
  · obtain ⟨x, hx, ex, mx⟩ := at_ex (l := l) (k := i) (by omega)
    have hx' := hall x mx
    unfold legOk at hx'
    have wi : IntKind.i64.wrap ((i : Int) + 1) = ((i + 1 : Nat) : Int) := by simp (discharger := omega) only [w64, wu64, wu8, w32, wu32, tdivC, tmodC]; omega
    rw [ex, gainF] at g7
    refine OptK.mk _ (ria i rfl (by omega)) ?_
    refine OptK.mk _ (rld legz hx) ?_
    refine OptK.mk _ rfl ?_
    have ed : (if x.1 < left then x.1 else left) = min left x.1 := by omega
    obtain ⟨d, hd⟩ : ∃ d, d = min left x.1 := ⟨_, rfl⟩
    rw [← hd] at g7 ed
    have a1 := Int.mul_le_mul_of_nonneg_left (show 1000000 + x.2.1 ≤ 1100000 by omega) (show 0 ≤ d by omega)
    have a2 := Int.mul_le_mul_of_nonneg_left (show 900000 ≤ 1000000 + x.2.1 by omega) (show 0 ≤ d by omega)
    have a3 : d * (1000000 + x.2.1) = d * 1000000 + d * x.2.1 := Int.mul_add _ _ _
    have w2 : IntKind.i64.wrap (1000000 + x.2.1) = 1000000 + x.2.1 := w64 (by omega)
    have w3 : IntKind.i64.wrap (d * (1000000 + x.2.1)) = d * (1000000 + x.2.1) := w64 (by omega)
    have w4 : IntKind.i64.wrap (sum + d * (1000000 + x.2.1)) = sum + d * (1000000 + x.2.1) := w64 (by omega)
    have w5 : IntKind.i64.wrap (left - d) = left - d := w64 (by omega)
    refine ih _ _ _ ⟨?_, ?_, ?_, ?_, ?_, ?_, ?_⟩ ?_
    all_goals simp only [ed, w2, w3, w4, w5, wi, Int.toNat_natCast]
    all_goals omega
  · rw [List.drop_eq_nil_of_le (by omega), gainF] at g7
    have w2 : IntKind.i64.wrap (left * 1000000) = left * 1000000 := w64 (by omega)
    have w3 : IntKind.i64.wrap (sum + left * 1000000) = sum + left * 1000000 := w64 (by omega)
    ((repeat' first | refine DecK.tt ?_ | refine DecK.ff ?_ | refine DecK.beq (fun _ => ?_) (fun _ => ?_) | refine DecK.bne (fun _ => ?_) (fun _ => ?_) | refine DecK.dec (fun _ => ?_) (fun _ => ?_) | refine OptK.mk _ rfl ?_ | refine endV (by rfl) ?_) <;> (try with_reducible rfl))
    refine congrArg (fun z => V.tup [.n .i64 z, .n .i64 0]) ?_
    rw [w2, w3, show sum + left * 1000000 = (t - a) * 1000000 + gainF (t - a) l by omega, Int.tdiv_eq_ediv_of_nonneg (by omega)]
    generalize gainF (t - a) l = G at *
    simp (discharger := omega) only [w64, wu64, wu8, w32, wu32, tdivC, tmodC]
    omega
theorem readAt_ok (s a : Int) (l : List LegT) (t : Int) (hl : l.length ≤ 9000000000000000000) : Pure Try.prog 31 [runV s a l, .n .i64 t] (.tup [.n .i64 (readF s a l t), .n .i64 (readErr s a l t)]) := by
  refine pure_of_wp of31 (Nat.le_of_ble_eq_true rfl) ?_
  refine CallK.mk _ (runErr_ok s a l hl) rfl ?_
  refine DecK.bne (fun h => ?_) (fun h => ?_)
  · ((repeat' first | refine DecK.tt ?_ | refine DecK.ff ?_ | refine DecK.beq (fun _ => ?_) (fun _ => ?_) | refine DecK.bne (fun _ => ?_) (fun _ => ?_) | refine DecK.dec (fun _ => ?_) (fun _ => ?_) | refine OptK.mk _ rfl ?_ | refine endV (by rfl) ?_) <;> (try with_reducible rfl))
    have e : readErr s a l t = runErr s a l := by rw [readErr, if_pos h]
    rw [readF, e, if_neg h]
  obtain ⟨h1, h2, h3, h4⟩ := runErr_zero h
  have e0 : readErr s a l t = if inT t ∧ a ≤ t ∧ t - a ≤ 1099511627776 then 0 else 4 := by rw [readErr, if_neg (by simp [h])]
  refine CallK.mk _ (inTime2 t) rfl ?_
  by_cases ht : inT t
  case neg =>
    refine DecK.yes (by simp [ht]) ?_
    repeat' first | (refine DecK.yes (by simp [ht]) ?_) | refine DecK.tt ?_ | refine DecK.ff ?_ | refine DecK.beq (fun _ => ?_) (fun _ => ?_) | refine DecK.bne (fun _ => ?_) (fun _ => ?_) | refine DecK.dec (fun _ => ?_) (fun _ => ?_) | refine OptK.mk _ rfl ?_ | refine endV (by rfl) ?_
    rw [if_neg (fun g => ht g.1)] at e0
    rw [readF, e0]; rfl
  refine DecK.no (by simp [ht]) ?_
  have ht' := ht
  unfold inT at h1 h2 ht
  have w1 : IntKind.i64.wrap (t - a) = t - a := w64 (by omega)
  refine DecK.dec (fun hs => ?_) (fun hs => ?_)
  · ((repeat' first | refine DecK.tt ?_ | refine DecK.ff ?_ | refine DecK.beq (fun _ => ?_) (fun _ => ?_) | refine DecK.bne (fun _ => ?_) (fun _ => ?_) | refine DecK.dec (fun _ => ?_) (fun _ => ?_) | refine OptK.mk _ rfl ?_ | refine endV (by rfl) ?_) <;> (try with_reducible rfl))
    rw [if_neg (fun g => by omega)] at e0
    rw [readF, e0]; rfl
  refine DecK.dec (fun hm => ?_) (fun hm => ?_)
  · rw [w1] at hm
    ((repeat' first | refine DecK.tt ?_ | refine DecK.ff ?_ | refine DecK.beq (fun _ => ?_) (fun _ => ?_) | refine DecK.bne (fun _ => ?_) (fun _ => ?_) | refine DecK.dec (fun _ => ?_) (fun _ => ?_) | refine OptK.mk _ rfl ?_ | refine endV (by rfl) ?_) <;> (try with_reducible rfl))
    rw [if_neg (fun g => by omega)] at e0
    rw [readF, e0]; rfl
  rw [w1] at hm
  rw [if_pos ⟨ht', by omega, by omega⟩] at e0
  have eF : readF s a l t = s + (t - a) + gainF (t - a) l / 1000000 := by rw [readF, if_pos e0]
  rw [eF, e0]
  have zz : ∀ x : Int, -18446744073709551616 ≤ x ∧ x ≤ 18446744073709551616 → zok x := fun x h => (zb_64 h).mono (by decide)
  have hG := gain_in (legsErr_all h4) (left := t - a) (by omega)
  have hall := legsErr_all h4
  refine OptK.mk _ rfl ?_
  refine loop_eq (st' := ⟨[(1, .v (.n .i64 t)), (2, .ref 2 0), (7, .ref 7 0), (8, .v (.n .i64 a)), (39, .v (rowV legC l)), (40, .v (.n .i64 l.length)), (41, .v (.n .i64 0))], [(7, zCt 0 true), (2, [.n .i64 s, .n .i64 a, rowV legC l])]⟩) (by rw [zCt_zero]; rfl) ?_
  refine loop_ind4 (fun (g at_ i : Int) (tt : Bool) => ⟨[(1, .v (.n .i64 t)), (2, .ref 2 0), (7, .ref 7 0), (8, .v (.n .i64 at_)), (39, .v (rowV legC l)), (40, .v (.n .i64 l.length)), (41, .v (.n .i64 i))], [(7, zCt g tt), (2, [.n .i64 s, .n .i64 a, rowV legC l])]⟩) (fun g at_ i tt => l.length - i.toNat)
    (fun g at_ i tt => 0 ≤ i ∧ i ≤ l.length ∧ a ≤ at_ ∧ at_ ≤ t ∧ -((at_ - a) * 100000) ≤ g ∧ g ≤ (at_ - a) * 100000 ∧ g + gainF (t - at_) (l.drop i.toNat) = gainF (t - a) l) _ _ _ _ (by simp; omega) ?_
  intro g at_ iz tt ⟨g1, g2, g3, g4, g5, g6, g7⟩ ih
  obtain ⟨i, rfl⟩ : ∃ i : Nat, iz = i := ⟨iz.toNat, by omega⟩
  simp only [Int.toNat_natCast] at g7
  refine DecK.dec (fun h => ?_) (fun h => ?_)
  · obtain ⟨x, hx, ex, mx⟩ := at_ex (l := l) (k := i) (by omega)
    have hx' := hall x mx
    unfold legOk at hx'
    have wi : IntKind.i64.wrap ((i : Int) + 1) = ((i + 1 : Nat) : Int) := by simp (discharger := omega) only [w64, wu64, wu8, w32, wu32, tdivC, tmodC]; omega
    rw [ex, gainF] at g7
    refine OptK.mk _ (ria i rfl (by omega)) ?_
    refine OptK.mk _ (rld legz hx) ?_
    refine OptK.mk _ rfl ?_
    have w2 : IntKind.i64.wrap (at_ + x.1) = at_ + x.1 := w64 (by omega)
    obtain ⟨d, hd⟩ : ∃ d, d = min (t - at_) x.1 := ⟨_, rfl⟩
    have ed : (if IntKind.i64.wrap (at_ + x.1) < t then IntKind.i64.wrap (at_ + x.1) else t) = at_ + d := by rw [w2]; omega
    rw [← hd] at g7
    have a1 := Int.mul_le_mul_of_nonneg_left (show x.2.1 ≤ 100000 by omega) (show 0 ≤ d by omega)
    have a2 := Int.mul_le_mul_of_nonneg_left (show -100000 ≤ x.2.1 by omega) (show 0 ≤ d by omega)
    have w3 : IntKind.i64.wrap (at_ + d - at_) = d := by rw [w64 (by omega)]; omega
    refine CallK.mk _ ((I_ok d (by omega)).args (by rw [ed, w3])) rfl ?_
    refine CallK.mk _ (I_ok x.2.1 (by omega)) rfl ?_
    refine CallK.mk _ (Times_ok d x.2.1 (zz _ (by omega)) (zz _ (by omega))) rfl ?_
    refine CallK.mk _ (.of (.cons zT (.cons (.refl _) .nil)) (Plus_ok g (d * x.2.1) (zz _ (by omega)) (zz _ (by omega)))) rfl ?_
    refine OptK.mk _ rfl ?_
    refine ih _ _ _ false ⟨?_, ?_, ?_, ?_, ?_, ?_, ?_⟩ ?_
    all_goals simp only [ed, wi, Int.toNat_natCast]
    all_goals first | omega | (rw [show t - (at_ + d) = t - at_ - d by omega]; omega)
  · rw [List.drop_eq_nil_of_le (by omega), gainF] at g7
    have w2 : IntKind.i64.wrap (s + t) = s + t := w64 (by omega)
    have w3 : IntKind.i64.wrap (s + t - a) = s + t - a := w64 (by omega)
    refine CallK.mk _ (I_ok 1000000 (by decide)) rfl ?_
    refine CallK.mk _ (.of (.cons zT (.cons (.refl _) .nil)) (Floor_ok g 1000000 ((zb_64 (by omega)).mono (by decide)) ((zb_64 (by decide)).mono (by decide)) (by decide))) rfl ?_
    refine CallK.mk _ ((I_ok (s + t - a) (by omega)).args (by rw [w2, w3])) rfl ?_
    refine CallK.mk _ (Plus_ok (g / 1000000) (s + t - a) (zz _ (by omega)) (zz _ (by omega))) rfl ?_
    refine CallK.mk _ (Small_ok _ (zz _ (by omega))) rfl ?_
    ((repeat' first | refine DecK.tt ?_ | refine DecK.ff ?_ | refine DecK.beq (fun _ => ?_) (fun _ => ?_) | refine DecK.bne (fun _ => ?_) (fun _ => ?_) | refine DecK.dec (fun _ => ?_) (fun _ => ?_) | refine OptK.mk _ rfl ?_ | refine endV (by rfl) ?_) <;> (try with_reducible rfl))
    refine congrArg (fun z => V.tup [.n .i64 z, .n .i64 0]) ?_
    rw [small, if_pos (by unfold fits; omega)]
    omega
theorem clockRuns_pure (s a : Int) (l : List LegT) (t : Int) (hl : l.length ≤ 9000000000000000000) : Pure Try.prog 6 [runV s a l, .n .i64 t] (.b true) := by
  refine pure_of_wp of6 (Nat.le_of_ble_eq_true rfl) ?_
  refine CallK.mk _ (reads_ok s a l t hl) rfl ?_
  refine CallK.mk _ (readAt_ok s a l t hl) rfl ?_
  refine CallK.mk _ clocks_ok rfl ?_
  refine DecK.tt ?_
  refine CallK.mk _ (checkRun_ok s a l hl) rfl ?_
  refine CallK.mk _ (runErr_ok s a l hl) rfl ?_
  repeat' first | (refine DecK.yes (by simp) ?_) | (refine endV (by rfl) ?_)
  simp
theorem clockRuns_law (x : Ty.T (.pair (.pair (.n .i64) (.pair (.n .i64) (.pair (.sl 16 (.pair (.n .i64) (.pair (.n .i64) .nil))) .nil))) (.pair (.n .i64) .nil)))
    (h : Ty.inn (.pair (.pair (.n .i64) (.pair (.n .i64) (.pair (.sl 16 (.pair (.n .i64) (.pair (.n .i64) .nil))) .nil))) (.pair (.n .i64) .nil)) x) :
    Pure Try.prog 6 (Ty.vals (.pair (.pair (.n .i64) (.pair (.n .i64) (.pair (.sl 16 (.pair (.n .i64) (.pair (.n .i64) .nil))) .nil))) (.pair (.n .i64) .nil)) x) (.b true) :=
  clockRuns_pure x.1.1 x.1.2.1 x.1.2.2.1 x.2.1 (by
    have h := h.1.2.2.1.1
    have e : reachBytes ≤ 9000000000000000000 := by decide
    have : List.length (α := LegT) x.1.2.2.1 * 16 ≤ reachBytes := h
    omega)
end Go.Proofs.Ytdceakejbnolpaa.Sv

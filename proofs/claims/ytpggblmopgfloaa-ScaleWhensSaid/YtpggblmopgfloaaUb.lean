/- Rotations: the first time at an angle; the law ScaleWhens. No condition. -/
import Derived.Test.YtpggblmopgfloaaUa
import Derived.Test.YtpggblmopgfloaaTf
import Derived.Test.YtpggblmopgfloaaBp
import Derived.Test.YtpggblmopgfloaaBx
namespace Go.Proofs.Ytpggblmopgfloaa.Sv
open Go Go.RowKit
set_option linter.unusedVariables false
set_option linter.unusedSimpArgs false
set_option maxRecDepth 100000
/-- spyglass/scale.When -/
def F63 : Fn1 := ⟨75, .seq (.reg [⟨some 3, none, .box, [.tm 0]⟩, ⟨some 6, none, .mv, [.cn (.n .i64 0)]⟩, ⟨some 7, none, .mv, [.cn (.n .i64 0)]⟩] [1, 2, 3]) (.seq (.seq (.reg [⟨some 15, none, .ld true 4 false, [.tm 3]⟩, ⟨some 16, none, .call 76, [.tm 15]⟩, ⟨some 8, none, .mv, [.tm 16]⟩] [1, 2, 3, 8]) (.seq (.reg [⟨some 17, none, .mv, [.tm 8]⟩, ⟨some 18, none, .po (.bin .neq), [.tm 17, .cn (.n .i64 0)]⟩] [1, 2, 3, 8, 18]) (.cond (.tm 18) (.seq (.reg [⟨some 19, none, .mv, [.tm 8]⟩, ⟨some 6, none, .mv, [.cn (.n .i64 0)]⟩, ⟨some 7, none, .mv, [.tm 19]⟩] [6, 7]) .ret) .skip))) (.seq (.seq (.reg [⟨some 20, none, .mv, [.tm 1]⟩, ⟨some 21, none, .po (.bin .lss), [.tm 20, .cn (.n .i64 (-17592186044416))]⟩, ⟨some 22, none, .mv, [.tm 21]⟩, ⟨some 23, some (22, false), .mv, [.tm 1]⟩, ⟨some 24, some (22, false), .po (.bin .gtr), [.tm 23, .cn (.n .i64 17592186044416)]⟩, ⟨some 25, none, .pick, [.tm 22, .cn (.b true), .tm 24]⟩, ⟨some 26, none, .mv, [.tm 25]⟩, ⟨some 27, some (26, false), .mv, [.tm 2]⟩, ⟨some 28, some (26, false), .po (.bin .lss), [.tm 27, .cn (.n .i64 0)]⟩, ⟨some 29, none, .pick, [.tm 26, .cn (.b true), .tm 28]⟩, ⟨some 30, none, .mv, [.tm 29]⟩, ⟨some 31, some (30, false), .mv, [.tm 2]⟩, ⟨some 32, some (30, false), .po (.bin .geq), [.tm 31, .cn (.n .i64 4294967296)]⟩, ⟨some 33, none, .pick, [.tm 30, .cn (.b true), .tm 32]⟩] [1, 2, 3, 33]) (.cond (.tm 33) (.seq (.reg [⟨some 6, none, .mv, [.cn (.n .i64 0)]⟩, ⟨some 7, none, .mv, [.cn (.n .i64 4)]⟩] [6, 7]) .ret) .skip)) (.seq (.reg [⟨some 34, none, .ld true 4 false, [.tm 3]⟩, ⟨some 35, none, .mv, [.tm 1]⟩, ⟨some 36, none, .call 111, [.tm 34, .tm 35]⟩, ⟨some 9, none, .mv, [.tm 36]⟩] [1, 2, 3, 9]) (.seq (.reg [⟨some 37, none, .mv, [.tm 9]⟩, ⟨some 38, none, .mv, [.tm 2]⟩, ⟨some 39, none, .mv, [.tm 9]⟩, ⟨some 40, none, .po (.bin .sub), [.tm 38, .tm 39]⟩, ⟨some 41, none, .call 112, [.tm 40, .cn (.n .i64 4294967296)]⟩, ⟨some 42, none, .po (.bin .add), [.tm 37, .tm 41]⟩, ⟨some 10, none, .mv, [.tm 42]⟩] [1, 3, 10]) (.seq (.reg [⟨some 44, none, .mv, [.tm 10]⟩, ⟨some 45, none, .fa 1, [.tm 3]⟩, ⟨some 46, none, .ld false 1 false, [.tm 45]⟩, ⟨some 47, none, .po (.bin .sub), [.tm 44, .tm 46]⟩, ⟨some 48, none, .fa 2, [.tm 3]⟩, ⟨some 49, none, .fa 1, [.tm 48]⟩, ⟨some 50, none, .ld false 1 false, [.tm 49]⟩, ⟨some 51, none, .fa 2, [.tm 3]⟩, ⟨some 52, none, .fa 0, [.tm 51]⟩, ⟨some 53, none, .ld false 1 false, [.tm 52]⟩, ⟨some 54, none, .call 113, [.tm 47, .tm 50, .tm 53]⟩, ⟨some 43, none, .mv, [.tm 54]⟩, ⟨some 55, none, .po (.ext 0), [.tm 43]⟩, ⟨some 56, none, .po (.ext 1), [.tm 43]⟩, ⟨some 11, none, .mv, [.tm 55]⟩, ⟨some 12, none, .mv, [.tm 56]⟩] [1, 3, 11, 12]) (.seq (.seq (.reg [⟨some 57, none, .mv, [.tm 12]⟩, ⟨some 58, none, .po (.bin .neq), [.tm 57, .cn (.n .i64 0)]⟩] [1, 3, 11, 58]) (.cond (.tm 58) (.seq (.reg [⟨some 6, none, .mv, [.cn (.n .i64 0)]⟩, ⟨some 7, none, .mv, [.cn (.n .i64 2)]⟩] [6, 7]) .ret) .skip)) (.seq (.reg [⟨some 60, none, .mv, [.tm 11]⟩, ⟨some 61, none, .fa 0, [.tm 3]⟩, ⟨some 62, none, .ld false 1 false, [.tm 61]⟩, ⟨some 63, none, .call 114, [.tm 60, .tm 62]⟩, ⟨some 59, none, .mv, [.tm 63]⟩, ⟨some 64, none, .po (.ext 0), [.tm 59]⟩, ⟨some 65, none, .po (.ext 1), [.tm 59]⟩, ⟨some 13, none, .mv, [.tm 64]⟩, ⟨some 14, none, .mv, [.tm 65]⟩] [1, 13, 14]) (.seq (.seq (.reg [⟨some 66, none, .mv, [.tm 14]⟩, ⟨some 67, none, .po (.un .not), [.tm 66]⟩, ⟨some 68, none, .mv, [.tm 67]⟩, ⟨some 69, some (68, false), .mv, [.tm 13]⟩, ⟨some 70, some (68, false), .po (.bin .gtr), [.tm 69, .cn (.n .i64 17592186044416)]⟩, ⟨some 71, none, .pick, [.tm 68, .cn (.b true), .tm 70]⟩] [1, 13, 71]) (.cond (.tm 71) (.seq (.reg [⟨some 6, none, .mv, [.cn (.n .i64 0)]⟩, ⟨some 7, none, .mv, [.cn (.n .i64 2)]⟩] [6, 7]) .ret) .skip)) (.seq (.reg [⟨some 72, none, .mv, [.tm 13]⟩, ⟨some 73, none, .mv, [.tm 1]⟩, ⟨some 74, none, .po .mx, [.tm 72, .tm 73]⟩, ⟨some 6, none, .mv, [.tm 74]⟩, ⟨some 7, none, .mv, [.cn (.n .i64 0)]⟩] [6, 7]) .ret))))))))), [.tm 6, .tm 7]⟩
theorem of63 : Fn1.of Try.prog 63 ⟨false, [], false⟩ [[1, 2, 3], [1, 2, 3, 8], [1, 2, 3, 8, 18], [6, 7], [1, 2, 3, 33], [6, 7], [1, 2, 3, 9], [1, 3, 10], [1, 3, 11, 12], [1, 3, 11, 58], [6, 7], [1, 13, 14], [1, 13, 71], [6, 7], [6, 7]] = some F63 := by kernel_rfl
/-- live: [8, 12, 13, 14] -/
def L66_0 : SC := .seq (.seq (.reg [⟨some 41, none, .mv, [.tm 14]⟩, ⟨some 42, none, .mv, [.tm 13]⟩, ⟨some 43, none, .po (.bin .sub), [.tm 41, .tm 42]⟩, ⟨some 44, none, .po (.bin .gtr), [.tm 43, .cn (.n .i64 1)]⟩] [8, 12, 13, 14, 44]) (.cond (.tm 44) .skip (.exit 0))) (.block 1 (.seq (.reg [⟨some 45, none, .mv, [.tm 13]⟩, ⟨some 46, none, .mv, [.tm 14]⟩, ⟨some 47, none, .po (.bin .add), [.tm 45, .tm 46]⟩, ⟨some 48, none, .po (.bin .quo), [.tm 47, .cn (.n .i64 2)]⟩, ⟨some 15, none, .mv, [.tm 48]⟩] [8, 12, 13, 14, 15]) (.seq (.dreg [⟨some 49, none, .mv, [.tm 8]⟩, ⟨some 50, none, .mv, [.tm 15]⟩, ⟨some 51, none, .callD, [.tm 49, .tm 50]⟩, ⟨some 52, none, .ld true 2 false, [.tm 12]⟩, ⟨some 53, none, .call 14, [.tm 51, .tm 52]⟩, ⟨some 54, none, .po (.bin .geq), [.tm 53, .cn (.n .i64 0)]⟩] [] [8, 12, 13, 14, 15, 54]) (.cond (.tm 54) (.reg [⟨some 55, none, .mv, [.tm 15]⟩, ⟨some 14, none, .mv, [.tm 55]⟩] [8, 12, 13, 14]) (.reg [⟨some 56, none, .mv, [.tm 15]⟩, ⟨some 13, none, .mv, [.tm 56]⟩] [8, 12, 13, 14])))))
/-- spyglass/spyref1.Reached -/
def F66 : Fn1 := ⟨58, .seq (.reg [⟨some 3, none, .box, [.tm 0]⟩, ⟨some 6, none, .mv, [.cn (.n .i64 0)]⟩, ⟨some 7, none, .mv, [.cn (.n .i64 0)]⟩] [1, 2, 3]) (.seq (.reg [⟨some 16, none, .po (.mkF (.func 116) 0), [.tm 3]⟩, ⟨some 8, none, .mv, [.tm 16]⟩] [1, 2, 8]) (.seq (.reg [⟨some 17, none, .mv, [.tm 8]⟩, ⟨some 18, none, .mv, [.tm 1]⟩, ⟨some 19, none, .callD, [.tm 17, .tm 18]⟩, ⟨some 9, none, .alloc [.b false, .sl 0 [] true], []⟩, ⟨none, none, .st 2, [.tm 9, .tm 19]⟩] [1, 2, 8, 9]) (.seq (.dreg [⟨some 21, none, .mv, [.tm 2]⟩, ⟨some 22, none, .call 16, [.tm 21]⟩, ⟨some 23, none, .ld true 2 false, [.tm 9]⟩, ⟨some 24, none, .call 30, [.tm 22, .tm 23]⟩, ⟨some 25, none, .call 75, [.cn (.n .i64 32)]⟩, ⟨some 26, none, .call 67, [.tm 24, .tm 25]⟩, ⟨some 20, none, .mv, [.tm 26]⟩, ⟨some 27, none, .po (.ext 0), [.tm 20]⟩, ⟨some 28, none, .po (.ext 1), [.tm 20]⟩, ⟨some 10, none, .alloc [.b false, .sl 0 [] true], []⟩, ⟨some 11, none, .alloc [.b false, .sl 0 [] true], []⟩, ⟨none, none, .st 2, [.tm 10, .tm 27]⟩, ⟨none, none, .st 2, [.tm 11, .tm 28]⟩] [(8, 11)] [1, 8, 9, 11]) (.seq (.reg [⟨some 29, none, .ld true 2 false, [.tm 9]⟩, ⟨some 30, none, .ld true 2 false, [.tm 11]⟩, ⟨some 31, none, .call 29, [.tm 29, .tm 30]⟩, ⟨some 12, none, .alloc [.b false, .sl 0 [] true], []⟩, ⟨none, none, .st 2, [.tm 12, .tm 31]⟩] [1, 8, 12]) (.seq (.reg [⟨some 32, none, .mv, [.tm 1]⟩, ⟨some 33, none, .po (.bin .sub), [.tm 32, .cn (.n .i64 1)]⟩, ⟨some 13, none, .mv, [.tm 33]⟩, ⟨some 14, none, .mv, [.cn (.n .i64 17592186044417)]⟩] [8, 12, 13, 14]) (.seq (.seq (.dreg [⟨some 34, none, .mv, [.tm 8]⟩, ⟨some 35, none, .mv, [.tm 14]⟩, ⟨some 36, none, .po (.bin .sub), [.tm 35, .cn (.n .i64 1)]⟩, ⟨some 37, none, .callD, [.tm 34, .tm 36]⟩, ⟨some 38, none, .ld true 2 false, [.tm 12]⟩, ⟨some 39, none, .call 14, [.tm 37, .tm 38]⟩, ⟨some 40, none, .po (.bin .lss), [.tm 39, .cn (.n .i64 0)]⟩] [] [8, 12, 13, 14, 40]) (.cond (.tm 40) (.seq (.reg [⟨some 6, none, .mv, [.cn (.n .i64 0)]⟩, ⟨some 7, none, .mv, [.cn (.n .i64 2)]⟩] [6, 7]) .ret) .skip)) (.seq (.block 0 (.loop [8, 12, 13, 14] L66_0)) (.seq (.reg [⟨some 57, none, .mv, [.tm 14]⟩, ⟨some 6, none, .mv, [.tm 57]⟩, ⟨some 7, none, .mv, [.cn (.n .i64 0)]⟩] [6, 7]) .ret)))))))), [.tm 6, .tm 7]⟩
theorem of66 : Fn1.of Try.prog 66 ⟨false, [], false⟩ [[1, 2, 3], [1, 2, 8], [1, 2, 8, 9], [1, 8, 9, 11], [1, 8, 12], [8, 12, 13, 14], [8, 12, 13, 14, 40], [6, 7], [8, 12, 13, 14], [8, 12, 13, 14, 44], [8, 12, 13, 14, 15], [8, 12, 13, 14, 15, 54], [8, 12, 13, 14], [8, 12, 13, 14], [6, 7]] = some F66 := by kernel_rfl
/-- spyglass/spyref1.Reached$1 -/
def F116 : Fn1 := ⟨12, .seq (.reg [⟨some 3, none, .alloc [.b false, .sl 0 [] true], []⟩] [0, 1, 3]) (.seq (.dreg [⟨some 4, none, .ld true 4 false, [.tm 1]⟩, ⟨some 5, none, .mv, [.tm 0]⟩, ⟨some 6, none, .call 16, [.tm 5]⟩, ⟨some 7, none, .call 74, [.tm 4, .tm 6, .cn (.b false)]⟩, ⟨some 8, none, .fa 1, [.tm 1]⟩, ⟨some 9, none, .ld false 1 false, [.tm 8]⟩, ⟨some 10, none, .call 16, [.tm 9]⟩, ⟨some 11, none, .call 29, [.tm 7, .tm 10]⟩, ⟨none, none, .st 2, [.tm 3, .tm 11]⟩] [] [3]) .ret), [.cell 3 true 2]⟩
theorem of116 : Fn1.of Try.prog 116 ⟨false, [], false⟩ [[0, 1, 3], [3]] = some F116 := by kernel_rfl
/-- spyglass/spylaw1.ScaleWhens -/
def F8 : Fn1 := ⟨70, .seq (.reg [⟨some 3, none, .box, [.tm 0]⟩, ⟨some 6, none, .mv, [.cn (.b false)]⟩] [1, 2, 3]) (.seq (.reg [⟨some 13, none, .ld true 4 false, [.tm 3]⟩, ⟨some 14, none, .mv, [.tm 1]⟩, ⟨some 15, none, .mv, [.tm 2]⟩, ⟨some 16, none, .call 63, [.tm 13, .tm 14, .tm 15]⟩, ⟨some 12, none, .mv, [.tm 16]⟩, ⟨some 17, none, .po (.ext 0), [.tm 12]⟩, ⟨some 18, none, .po (.ext 1), [.tm 12]⟩, ⟨some 7, none, .mv, [.tm 17]⟩, ⟨some 8, none, .mv, [.tm 18]⟩] [1, 2, 3, 7, 8]) (.seq (.reg [⟨some 19, none, .ld true 4 false, [.tm 3]⟩, ⟨some 20, none, .call 64, [.tm 19]⟩, ⟨some 9, none, .mv, [.tm 20]⟩] [1, 2, 3, 7, 8, 9]) (.seq (.seq (.reg [⟨some 21, none, .mv, [.tm 9]⟩, ⟨some 22, none, .po (.bin .eql), [.tm 21, .cn (.n .i64 0)]⟩, ⟨some 23, none, .mv, [.tm 22]⟩, ⟨some 24, some (23, true), .mv, [.tm 1]⟩, ⟨some 25, some (23, true), .po (.bin .lss), [.tm 24, .cn (.n .i64 (-17592186044416))]⟩, ⟨some 26, some (23, true), .mv, [.tm 25]⟩, ⟨some 27, some (26, false), .mv, [.tm 1]⟩, ⟨some 28, some (26, false), .po (.bin .gtr), [.tm 27, .cn (.n .i64 17592186044416)]⟩, ⟨some 29, some (23, true), .pick, [.tm 26, .cn (.b true), .tm 28]⟩, ⟨some 30, some (23, true), .mv, [.tm 29]⟩, ⟨some 31, some (30, false), .mv, [.tm 2]⟩, ⟨some 32, some (30, false), .po (.bin .lss), [.tm 31, .cn (.n .i64 0)]⟩, ⟨some 33, some (23, true), .pick, [.tm 30, .cn (.b true), .tm 32]⟩, ⟨some 34, some (23, true), .mv, [.tm 33]⟩, ⟨some 35, some (34, false), .mv, [.tm 2]⟩, ⟨some 36, some (34, false), .po (.bin .geq), [.tm 35, .cn (.n .i64 4294967296)]⟩, ⟨some 37, some (23, true), .pick, [.tm 34, .cn (.b true), .tm 36]⟩, ⟨some 38, none, .pick, [.tm 23, .tm 37, .cn (.b false)]⟩] [1, 2, 3, 7, 8, 9, 38]) (.cond (.tm 38) (.reg [⟨some 9, none, .mv, [.cn (.n .i64 4)]⟩] [1, 2, 3, 7, 8, 9]) .skip)) (.seq (.seq (.reg [⟨some 39, none, .call 65, []⟩, ⟨some 40, none, .po (.un .not), [.tm 39]⟩, ⟨some 41, none, .mv, [.tm 40]⟩, ⟨some 42, some (41, false), .mv, [.tm 9]⟩, ⟨some 43, some (41, false), .po (.bin .neq), [.tm 42, .cn (.n .i64 0)]⟩, ⟨some 44, none, .pick, [.tm 41, .cn (.b true), .tm 43]⟩] [1, 2, 3, 7, 8, 9, 44]) (.cond (.tm 44) (.seq (.reg [⟨some 45, none, .call 65, []⟩, ⟨some 46, none, .mv, [.tm 45]⟩, ⟨some 47, some (46, true), .mv, [.tm 8]⟩, ⟨some 48, some (46, true), .mv, [.tm 9]⟩, ⟨some 49, some (46, true), .po (.bin .eql), [.tm 47, .tm 48]⟩, ⟨some 50, none, .pick, [.tm 46, .tm 49, .cn (.b false)]⟩, ⟨some 51, none, .mv, [.tm 50]⟩, ⟨some 52, some (51, true), .mv, [.tm 7]⟩, ⟨some 53, some (51, true), .po (.bin .eql), [.tm 52, .cn (.n .i64 0)]⟩, ⟨some 54, none, .pick, [.tm 51, .tm 53, .cn (.b false)]⟩, ⟨some 6, none, .mv, [.tm 54]⟩] [6]) .ret) .skip)) (.seq (.reg [⟨some 56, none, .ld true 4 false, [.tm 3]⟩, ⟨some 57, none, .mv, [.tm 1]⟩, ⟨some 58, none, .mv, [.tm 2]⟩, ⟨some 59, none, .call 66, [.tm 56, .tm 57, .tm 58]⟩, ⟨some 55, none, .mv, [.tm 59]⟩, ⟨some 60, none, .po (.ext 0), [.tm 55]⟩, ⟨some 61, none, .po (.ext 1), [.tm 55]⟩, ⟨some 10, none, .mv, [.tm 60]⟩, ⟨some 11, none, .mv, [.tm 61]⟩] [7, 8, 10, 11]) (.seq (.reg [⟨some 62, none, .mv, [.tm 7]⟩, ⟨some 63, none, .mv, [.tm 10]⟩, ⟨some 64, none, .po (.bin .eql), [.tm 62, .tm 63]⟩, ⟨some 65, none, .mv, [.tm 64]⟩, ⟨some 66, some (65, true), .mv, [.tm 8]⟩, ⟨some 67, some (65, true), .mv, [.tm 11]⟩, ⟨some 68, some (65, true), .po (.bin .eql), [.tm 66, .tm 67]⟩, ⟨some 69, none, .pick, [.tm 65, .tm 68, .cn (.b false)]⟩, ⟨some 6, none, .mv, [.tm 69]⟩] [6]) .ret)))))), [.tm 6]⟩
theorem of8 : Fn1.of Try.prog 8 ⟨false, [], false⟩ [[1, 2, 3], [1, 2, 3, 7, 8], [1, 2, 3, 7, 8, 9], [1, 2, 3, 7, 8, 9, 38], [1, 2, 3, 7, 8, 9], [1, 2, 3, 7, 8, 9, 44], [6], [7, 8, 10, 11], [6]] = some F8 := by kernel_rfl
/-- What both answer for arguments that are right: the time q (without that at the beginning). -/
def whenErr (t0 a0 n d fr a : Int) : Int := if rateErr t0 a0 n d ≠ 0 then rateErr t0 a0 n d else if fr < -17592186044416 ∨ fr > 17592186044416 ∨ a < 0 ∨ a ≥ 4294967296 then 4 else 0
def goalF (t0 a0 n d fr a : Int) : Int := (fr - t0) * n / d + a0 + (a - ((fr - t0) * n / d + a0)) % 4294967296
def wantQ (t0 a0 n d fr a : Int) : Int := cdiv ((goalF t0 a0 n d fr a - a0) * d) n
def whenV (t0 a0 n d fr a : Int) : V := if wantQ t0 a0 n d fr a + t0 > 17592186044416 then .tup [.n .i64 0, .n .i64 2] else .tup [.n .i64 (max (wantQ t0 a0 n d fr a + t0) fr), .n .i64 0]
theorem cdiv_le {x c k : Int} (hc : 1 ≤ c) : cdiv x c ≤ k ↔ x ≤ k * c := by
  unfold cdiv
  constructor
  · intro h
    have h1 := Int.mul_le_mul_of_nonneg_right (show -k ≤ -x / c by omega) (show 0 ≤ c by omega)
    have h2 := Int.ediv_mul_le (-x) (show c ≠ 0 by omega)
    rw [Int.neg_mul] at h1
    omega
  · intro h
    have := Int.le_ediv_of_mul_le (show 0 < c by omega) (show -k * c ≤ -x by rw [Int.neg_mul]; omega)
    omega
theorem want_at {t0 a0 n d fr a : Int} (h : RateIn t0 a0 n d) (t : Int) : goalF t0 a0 n d fr a ≤ (t - t0) * n / d + a0 ↔ wantQ t0 a0 n d fr a + t0 ≤ t := by
  have h1 := h.hn
  have h2 := h.hd
  have e : wantQ t0 a0 n d fr a + t0 ≤ t ↔ (goalF t0 a0 n d fr a - a0) * d ≤ (t - t0) * n := by
    rw [← cdiv_le (by omega)]
    unfold wantQ
    omega
  rw [e]
  generalize goalF t0 a0 n d fr a = g
  rw [show g ≤ (t - t0) * n / d + a0 ↔ g - a0 ≤ (t - t0) * n / d by omega]
  exact Int.le_ediv_iff_mul_le (by omega)
theorem want_in {t0 a0 n d fr a : Int} (h : RateIn t0 a0 n d) (hf : -17592186044416 ≤ fr ∧ fr ≤ 17592186044416) :
    (-2305843009213693952 ≤ goalF t0 a0 n d fr a - a0 ∧ goalF t0 a0 n d fr a - a0 ≤ 2305843013508661248) ∧ (0 ≤ (a - ((fr - t0) * n / d + a0)) % 4294967296 ∧ (a - ((fr - t0) * n / d + a0)) % 4294967296 < 4294967296) ∧
    -35184372088832 - 1152921504606846976 ≤ wantQ t0 a0 n d fr a := by
  have h1 := h.hn
  have h2 := h.hd
  have h0 := h.ht
  have b := turn_in h (t := fr) (T := 35184372088832) (by decide) (by omega)
  have m1 := Int.emod_nonneg (a - ((fr - t0) * n / d + a0)) (show (4294967296 : Int) ≠ 0 by decide)
  have m2 := Int.emod_lt_of_pos (a - ((fr - t0) * n / d + a0)) (show (0 : Int) < 4294967296 by decide)
  refine ⟨?_, ⟨m1, m2⟩, ?_⟩
  · unfold goalF
    omega
  · refine Classical.byContradiction fun k => ?_
    have k' : wantQ t0 a0 n d fr a + t0 ≤ fr - 1152921504606846977 := by omega
    have k2 := (want_at h (fr - 1152921504606846977)).2 k'
    have k3 : (fr - t0) * n / d ≤ (fr - 1152921504606846977 - t0) * n / d := by unfold goalF at k2; omega
    have k4 := (Int.le_ediv_iff_mul_le (show 0 < d by omega)).1 k3
    have k5 := Int.lt_ediv_add_one_mul_self ((fr - t0) * n) (show 0 < d by omega)
    have k6 : (fr - 1152921504606846977 - t0) * n = (fr - t0) * n - 1152921504606846977 * n := by rw [show fr - 1152921504606846977 - t0 = fr - t0 - 1152921504606846977 by omega, Int.sub_mul]
    rw [Int.add_mul, Int.one_mul] at k5
    omega
set_option maxHeartbeats 1000000 in
theorem when_ok (t0 a0 n d fr a : Int) (hn : fits n) (hd : fits d) : Pure Try.prog 63 [rateV t0 a0 n d, .n .i64 fr, .n .i64 a] (if whenErr t0 a0 n d fr a ≠ 0 then .tup [.n .i64 0, .n .i64 (whenErr t0 a0 n d fr a)] else whenV t0 a0 n d fr a) := by
  obtain ⟨r, hr⟩ : ∃ r, r = (if whenErr t0 a0 n d fr a ≠ 0 then .tup [.n .i64 0, .n .i64 (whenErr t0 a0 n d fr a)] else whenV t0 a0 n d fr a) := ⟨_, rfl⟩
  rw [← hr]
  refine pure_of_wp of63 (Nat.le_of_ble_eq_true rfl) ?_
  refine CallK.mk _ (rateCheck t0 a0 n d hn hd) rfl ?_
  refine DecK.bne (fun h => ?_) (fun h => ?_)
  · ((repeat' first | refine DecK.tt ?_ | refine DecK.ff ?_ | refine DecK.beq (fun _ => ?_) (fun _ => ?_) | refine DecK.bne (fun _ => ?_) (fun _ => ?_) | refine DecK.dec (fun _ => ?_) (fun _ => ?_) | refine OptK.mk _ rfl ?_ | refine endV (by rfl) ?_) <;> (try with_reducible rfl))
    rw [hr, whenErr, if_pos h, if_pos h]
  have hi := rate_in h
  by_cases g : fr < -17592186044416 ∨ fr > 17592186044416 ∨ a < 0 ∨ a ≥ 4294967296
  · have hw : whenErr t0 a0 n d fr a = 4 := by rw [whenErr, if_neg (by simpa using h), if_pos g]
    rw [hw, if_pos (by decide)] at hr
    subst hr
    refine DecK.dec (fun g1 => ?_) (fun g1 => ?_)
    · repeat' (refine DecK.tt ?_)
      ((repeat' first | refine DecK.tt ?_ | refine DecK.ff ?_ | refine DecK.beq (fun _ => ?_) (fun _ => ?_) | refine DecK.bne (fun _ => ?_) (fun _ => ?_) | refine DecK.dec (fun _ => ?_) (fun _ => ?_) | refine OptK.mk _ rfl ?_ | refine endV (by rfl) ?_) <;> (try with_reducible rfl))
    refine DecK.dec (fun g2 => ?_) (fun g2 => ?_)
    · repeat' (refine DecK.tt ?_)
      ((repeat' first | refine DecK.tt ?_ | refine DecK.ff ?_ | refine DecK.beq (fun _ => ?_) (fun _ => ?_) | refine DecK.bne (fun _ => ?_) (fun _ => ?_) | refine DecK.dec (fun _ => ?_) (fun _ => ?_) | refine OptK.mk _ rfl ?_ | refine endV (by rfl) ?_) <;> (try with_reducible rfl))
    refine DecK.dec (fun g3 => ?_) (fun g3 => ?_)
    · repeat' (refine DecK.tt ?_)
      ((repeat' first | refine DecK.tt ?_ | refine DecK.ff ?_ | refine DecK.beq (fun _ => ?_) (fun _ => ?_) | refine DecK.bne (fun _ => ?_) (fun _ => ?_) | refine DecK.dec (fun _ => ?_) (fun _ => ?_) | refine OptK.mk _ rfl ?_ | refine endV (by rfl) ?_) <;> (try with_reducible rfl))
    refine DecK.yes (decide_eq_true (by omega)) ?_
    ((repeat' first | refine DecK.tt ?_ | refine DecK.ff ?_ | refine DecK.beq (fun _ => ?_) (fun _ => ?_) | refine DecK.bne (fun _ => ?_) (fun _ => ?_) | refine DecK.dec (fun _ => ?_) (fun _ => ?_) | refine OptK.mk _ rfl ?_ | refine endV (by rfl) ?_) <;> (try with_reducible rfl))
  have hw : whenErr t0 a0 n d fr a = 0 := by rw [whenErr, if_neg (by simpa using h), if_neg g]
  rw [hw, if_neg (by decide)] at hr
  have hfr : -17592186044416 ≤ fr ∧ fr ≤ 17592186044416 := by omega
  obtain ⟨w1, w2, w3⟩ := want_in hi (a := a) hfr
  have h1 := hi.hn
  have h2 := hi.hd
  have h3 := hi.ht
  have h4 := hi.ha
  have b := turn_in hi (t := fr) (T := 35184372088832) (by decide) (by omega)
  refine DecK.no (decide_eq_false (by omega)) ?_
  refine DecK.no (decide_eq_false (by omega)) ?_
  refine DecK.no (decide_eq_false (by omega)) ?_
  refine DecK.no (decide_eq_false (by omega)) ?_
  refine CallK.mk _ (angle_ok hi fr hfr) rfl ?_
  have eg : goalF t0 a0 n d fr a = (fr - t0) * n / d + a0 + (a - ((fr - t0) * n / d + a0)) % 4294967296 := rfl
  have km := mod_ok (a - ((fr - t0) * n / d + a0)) 4294967296 (by unfold fits; omega) (by decide)
  rw [if_neg (by decide)] at km
  have ku := mulDivUp_ok (goalF t0 a0 n d fr a - a0) d n (by unfold fits; omega) (by unfold fits; omega) (by unfold fits; omega)
  rw [upT, if_neg (by omega)] at ku
  have v1 : IntKind.i64.wrap (a - ((fr - t0) * n / d + a0)) = a - ((fr - t0) * n / d + a0) := w64 (by omega)
  have v0 : IntKind.i64.wrap ((fr - t0) * n / d + a0 + (a - ((fr - t0) * n / d + a0)) % 4294967296) = goalF t0 a0 n d fr a := by rw [w64 (by omega), ← eg]
  have v2 : IntKind.i64.wrap (IntKind.i64.wrap ((fr - t0) * n / d + a0 + (a - ((fr - t0) * n / d + a0)) % 4294967296) - a0) = goalF t0 a0 n d fr a - a0 := by
    rw [v0, w64 (by omega)]
  refine CallK.mk _ (km.args (by rw [v1])) rfl ?_
  have lo := (cdiv_le (x := (goalF t0 a0 n d fr a - a0) * d) (c := n) (k := (goalF t0 a0 n d fr a - a0) * d / n + 1) (by omega)).2 (by
    have := Int.lt_ediv_add_one_mul_self ((goalF t0 a0 n d fr a - a0) * d) (show 0 < n by omega)
    omega)
  have hq : wantQ t0 a0 n d fr a = cdiv ((goalF t0 a0 n d fr a - a0) * d) n := rfl
  have ge := cdiv_ge (v := (goalF t0 a0 n d fr a - a0) * d) (c := n) (by omega)
  rw [← hq] at ku lo ge
  generalize (goalF t0 a0 n d fr a - a0) * d / n = fl at *
  unfold whenV at hr
  by_cases k : fits fl ∧ fits (wantQ t0 a0 n d fr a)
  · rw [if_pos k] at ku
    have kf := k.2
    refine CallK.mk _ (ku.args (by rw [v2])) rfl ?_
    refine DecK.no rfl ?_
    have ks := numAdd_ok (wantQ t0 a0 n d fr a) t0 k.2 (by unfold fits; omega)
    generalize wantQ t0 a0 n d fr a = q at *
    unfold fits at kf
    refine CallK.mk _ ks rfl ?_
    by_cases j : fits (q + t0)
    · have js : small (q + t0) = q + t0 := if_pos j
      refine DecK.no (by rw [decide_eq_true j]; rfl) ?_
      try rw [js]
      by_cases i : q + t0 > 17592186044416
      · refine DecK.yes (decide_eq_true i) ?_
        ((repeat' first | refine DecK.tt ?_ | refine DecK.ff ?_ | refine DecK.beq (fun _ => ?_) (fun _ => ?_) | refine DecK.bne (fun _ => ?_) (fun _ => ?_) | refine DecK.dec (fun _ => ?_) (fun _ => ?_) | refine OptK.mk _ rfl ?_ | refine endV (by rfl) ?_) <;> (try with_reducible rfl))
        rw [hr, if_pos i]
      · refine DecK.no (decide_eq_false i) ?_
        ((repeat' first | refine DecK.tt ?_ | refine DecK.ff ?_ | refine DecK.beq (fun _ => ?_) (fun _ => ?_) | refine DecK.bne (fun _ => ?_) (fun _ => ?_) | refine DecK.dec (fun _ => ?_) (fun _ => ?_) | refine OptK.mk _ rfl ?_ | refine endV (by rfl) ?_) <;> (try with_reducible rfl))
        rw [hr, if_neg i, show max (q + t0) fr = if fr > q + t0 then fr else q + t0 by omega]
    · refine DecK.yes (by rw [decide_eq_false j]; rfl) ?_
      repeat' (refine DecK.tt ?_)
      ((repeat' first | refine DecK.tt ?_ | refine DecK.ff ?_ | refine DecK.beq (fun _ => ?_) (fun _ => ?_) | refine DecK.bne (fun _ => ?_) (fun _ => ?_) | refine DecK.dec (fun _ => ?_) (fun _ => ?_) | refine OptK.mk _ rfl ?_ | refine endV (by rfl) ?_) <;> (try with_reducible rfl))
      rw [hr, if_pos (by unfold fits at j; omega)]
  · have hk : wantQ t0 a0 n d fr a + t0 > 17592186044416 := by unfold fits at k; omega
    rw [if_neg k] at ku
    refine CallK.mk _ (ku.args (by rw [v2])) rfl ?_
    refine DecK.yes rfl ?_
    ((repeat' first | refine DecK.tt ?_ | refine DecK.ff ?_ | refine DecK.beq (fun _ => ?_) (fun _ => ?_) | refine DecK.bne (fun _ => ?_) (fun _ => ?_) | refine DecK.dec (fun _ => ?_) (fun _ => ?_) | refine OptK.mk _ rfl ?_ | refine endV (by rfl) ?_) <;> (try with_reducible rfl))
    rw [hr, if_pos hk]
theorem reach1_ok {t0 a0 n d : Int} (h : RateIn t0 a0 n d) (t : Int) (ht : -17592186044417 ≤ t ∧ t ≤ 17592186044417) :
    Pure Try.prog 116 ([] ++ [.n .i64 t] ++ [.ip (rateC t0 a0 n d)]) (zV ((t - t0) * n / d + a0)) := by
  have b := turn_in h (t := t) (T := 35184372088833) (by decide) (by have := h.ht; omega)
  have ha := h.ha
  refine pure_of_wp of116 (Nat.le_of_ble_eq_true rfl) ?_
  refine OptK.mk _ rfl ?_
  refine CallK.mk _ (I_ok t (by omega)) rfl ?_
  refine CallK.mk _ (Turned_dn h t (by omega)) rfl ?_
  repeat' (refine OptK.mk _ rfl ?_)
  refine CallK.mk _ (I_ok a0 (by omega)) rfl ?_
  refine CallK.mk _ (Plus_ok ((t - t0) * n / d) a0 (by first | exact (zb_64 (by omega)).mono (by decide) | exact ((zb_64 (by omega)).mul (zb_64 (by omega))).mono (by decide)) (by first | exact (zb_64 (by omega)).mono (by decide) | exact ((zb_64 (by omega)).mul (zb_64 (by omega))).mono (by decide))) rfl ?_
  refine OptK.mk _ rfl ?_
  ((repeat' first | refine DecK.tt ?_ | refine DecK.ff ?_ | refine DecK.beq (fun _ => ?_) (fun _ => ?_) | refine DecK.bne (fun _ => ?_) (fun _ => ?_) | refine DecK.dec (fun _ => ?_) (fun _ => ?_) | refine OptK.mk _ rfl ?_ | refine endV (by rfl) ?_) <;> (try with_reducible rfl))
  rfl
theorem reached_ok {t0 a0 n d fr a : Int} (h : RateIn t0 a0 n d) (hfr : -17592186044416 ≤ fr ∧ fr ≤ 17592186044416) (ha : 0 ≤ a ∧ a < 4294967296) :
    Pure Try.prog 66 [rateV t0 a0 n d, .n .i64 fr, .n .i64 a] (whenV t0 a0 n d fr a) := by
  obtain ⟨r, hr⟩ : ∃ r, r = whenV t0 a0 n d fr a := ⟨_, rfl⟩
  rw [← hr]
  obtain ⟨w1, w2, w3⟩ := want_in h (a := a) hfr
  have h4 := h.ha
  have b := turn_in h (t := fr) (T := 35184372088832) (by decide) (by have := h.ht; omega)
  have two : Pure Try.prog 75 [.n .i64 32] (zV 4294967296) := Two_ok 32 (by decide)
  have eg : goalF t0 a0 n d fr a = (fr - t0) * n / d + a0 + (a - ((fr - t0) * n / d + a0)) % 4294967296 := rfl
  have zg : zok (goalF t0 a0 n d fr a) := (zb_64 (by omega)).mono (by decide)
  have hw := want_at h (fr := fr) (a := a)
  have zt : ∀ t : Int, -17592186044417 ≤ t → t ≤ 17592186044417 → zok ((t - t0) * n / d + a0) := fun t h1 h2 => by
    have b := turn_in h (t := t) (T := 35184372088833) (by decide) (by have := h.ht; omega)
    exact (zb_64 (by omega)).mono (by decide)
  have cmp : ∀ t : Int, -17592186044417 ≤ t → t ≤ 17592186044417 → Pure Try.prog 14 [zV ((t - t0) * n / d + a0), zV (goalF t0 a0 n d fr a)] (.n .i64 (icmp ((t - t0) * n / d + a0) (goalF t0 a0 n d fr a))) := fun t h1 h2 => Cmp_ok _ _ (zt t h1 h2) zg
  refine pure_of_wp of66 (Nat.le_of_ble_eq_true rfl) ?_
  refine CallK.mk _ (reach1_ok h fr (by omega)) rfl ?_
  refine OptK.mk _ rfl ?_
  refine CallK.mk _ (I_ok a (by omega)) rfl ?_
  refine CallK.mk _ (Less_ok a ((fr - t0) * n / d + a0) (by first | exact (zb_64 (by omega)).mono (by decide) | exact ((zb_64 (by omega)).mul (zb_64 (by omega))).mono (by decide)) (zt fr (by omega) (by omega))) rfl ?_
  refine CallK.mk _ two rfl ?_
  refine CallK.mk _ (Split_ok (a - ((fr - t0) * n / d + a0)) 4294967296 (by first | exact (zb_64 (by omega)).mono (by decide) | exact ((zb_64 (by omega)).mul (zb_64 (by omega))).mono (by decide)) (by first | exact (zb_64 (by omega)).mono (by decide) | exact ((zb_64 (by omega)).mul (zb_64 (by omega))).mono (by decide)) (by decide)) rfl ?_
  refine OptK.mk _ rfl ?_
  refine OptK.mk _ rfl ?_
  refine CallK.mk _ ((Plus_ok ((fr - t0) * n / d + a0) _ (zt fr (by omega) (by omega)) ((zb_64 (by omega)).mono (by decide))).args rfl) rfl ?_
  refine OptK.mk _ rfl ?_
  refine CallK.mk _ ((reach1_ok h 17592186044416 (by omega)).args rfl) rfl ?_
  refine CallK.mk _ (cmp 17592186044416 (by omega) (by omega)) rfl ?_
  have hT := hw 17592186044416
  unfold whenV at hr
  generalize wantQ t0 a0 n d fr a + t0 = W at *
  refine DecK.dec (fun g => ?_) (fun g => ?_)
  · have g' := icmp_lt0.1 g
    ((repeat' first | refine DecK.tt ?_ | refine DecK.ff ?_ | refine DecK.beq (fun _ => ?_) (fun _ => ?_) | refine DecK.bne (fun _ => ?_) (fun _ => ?_) | refine DecK.dec (fun _ => ?_) (fun _ => ?_) | refine OptK.mk _ rfl ?_ | refine endV (by rfl) ?_) <;> (try with_reducible rfl))
    rw [hr, if_pos (by omega)]
  have g' : ¬ _ := fun k => g (icmp_lt0.2 k)
  have hWT : W ≤ 17592186044416 := hT.1 (by omega)
  rw [if_neg (by omega)] at hr
  refine loop_ind2 (fun (lo hi : Int) => ⟨[(8, .v (.clo (.func 116) [] [.ip (rateC t0 a0 n d)])), (12, .ref 12 0), (13, .v (.n .i64 lo)), (14, .v (.n .i64 hi))], [(12, (zV (goalF t0 a0 n d fr a)).cells)]⟩) (fun lo hi => (hi - lo).toNat)
    (fun lo hi => fr - 1 ≤ lo ∧ lo < hi ∧ hi ≤ 17592186044417 ∧ (lo = fr - 1 ∨ lo < W) ∧ (hi = 17592186044417 ∨ W ≤ hi)) (IntKind.i64.wrap (fr - 1)) 17592186044417 (by rw [w64 (by omega)]; omega) ?_
  intro lo hi ⟨k1, k2, k3, k4, k5⟩ ih
  have e1 : IntKind.i64.wrap (hi - lo) = hi - lo := w64 (by omega)
  refine DecK.dec (fun q => ?_) (fun q => ?_)
  · rw [e1] at q
    have e2 : IntKind.i64.wrap ((IntKind.i64.wrap (lo + hi)).tdiv 2) = (lo + hi).tdiv 2 := by
      rw [w64 (n := lo + hi) (by omega), w64 (by rw [tdivC (by decide)]; omega)]
    have e3 : lo < (lo + hi).tdiv 2 ∧ (lo + hi).tdiv 2 < hi := by rw [tdivC (by decide)]; omega
    obtain ⟨m, hm0⟩ : ∃ m, m = (lo + hi).tdiv 2 := ⟨_, rfl⟩
    rw [← hm0] at e2 e3
    have hm := hw m
    refine CallK.mk _ ((reach1_ok h m (by omega)).args (by rw [← e2] <;> rfl)) rfl ?_
    refine CallK.mk _ (cmp m (by omega) (by omega)) rfl ?_
    refine DecK.dec (fun j => ?_) (fun j => ?_)
    · have j' := icmp_ge.1 j
      exact loop_eq (by rw [← e2] <;> rfl) <| ih lo m ⟨by omega, by omega, by omega, k4, .inr (hm.1 j')⟩ (by omega)
    · have j' : ¬ _ := fun i => j (icmp_ge.2 i)
      exact loop_eq (by rw [← e2] <;> rfl) <| ih m hi ⟨by omega, by omega, by omega, .inr (by rw [hm] at j'; omega), k5⟩ (by omega)
  · rw [e1] at q
    ((repeat' first | refine DecK.tt ?_ | refine DecK.ff ?_ | refine DecK.beq (fun _ => ?_) (fun _ => ?_) | refine DecK.bne (fun _ => ?_) (fun _ => ?_) | refine DecK.dec (fun _ => ?_) (fun _ => ?_) | refine OptK.mk _ rfl ?_ | refine endV (by rfl) ?_) <;> (try with_reducible rfl))
    rw [hr, show max W fr = hi by omega]
theorem scaleWhens_pure (t0 a0 n d fr a : Int) (hn : fits n) (hd : fits d) : Pure Try.prog 8 [rateV t0 a0 n d, .n .i64 fr, .n .i64 a] (.b true) := by
  have tw := when_ok t0 a0 n d fr a hn hd
  have tr := rateErr2 t0 a0 n d hn hd
  have hwhen : ∃ x e, (if whenErr t0 a0 n d fr a ≠ 0 then .tup [.n .i64 0, .n .i64 (whenErr t0 a0 n d fr a)] else whenV t0 a0 n d fr a) = V.tup [.n .i64 x, .n .i64 e] := by
    unfold whenV
    split
    · exact ⟨_, _, rfl⟩
    · split <;> exact ⟨_, _, rfl⟩
  obtain ⟨x, e, hx⟩ := hwhen
  rw [hx] at tw
  refine pure_of_wp of8 (Nat.le_of_ble_eq_true rfl) ?_
  refine CallK.mk _ tw rfl ?_
  refine CallK.mk _ tr rfl ?_
  have bad : whenErr t0 a0 n d fr a ≠ 0 → x = 0 ∧ e = whenErr t0 a0 n d fr a := fun h => by
    rw [if_pos h] at hx
    simp only [V.tup.injEq, List.cons.injEq, V.n.injEq, true_and, and_true] at hx
    exact ⟨hx.1.symm, hx.2.symm⟩
  have hw : whenErr t0 a0 n d fr a = if rateErr t0 a0 n d ≠ 0 then rateErr t0 a0 n d else if fr < -17592186044416 ∨ fr > 17592186044416 ∨ a < 0 ∨ a ≥ 4294967296 then 4 else 0 := rfl
  refine DecK.beq (fun g => ?_) (fun g => ?_)
  · by_cases o : fr < -17592186044416 ∨ fr > 17592186044416 ∨ a < 0 ∨ a ≥ 4294967296
    · rw [if_neg (by simpa using g), if_pos o] at hw
      obtain ⟨rfl, he⟩ := bad (by omega)
      rw [hw] at he
      subst he
      refine DecK.dec (fun g1 => ?_) (fun g1 => ?_)
      case' refine_2 => refine DecK.dec (fun g2 => ?_) (fun g2 => ?_)
      case' refine_2.refine_2 => refine DecK.dec (fun g3 => ?_) (fun g3 => ?_)
      case' refine_2.refine_2.refine_2 => refine DecK.yes (decide_eq_true (by omega)) ?_
      all_goals
        repeat' (refine DecK.tt ?_)
        refine CallK.mk _ scales_ok rfl ?_
        refine DecK.ff ?_
        refine DecK.yes rfl ?_
        refine CallK.mk _ scales_ok rfl ?_
        refine DecK.tt ?_
        refine DecK.yes rfl ?_
        ((repeat' first | refine DecK.tt ?_ | refine DecK.ff ?_ | refine DecK.beq (fun _ => ?_) (fun _ => ?_) | refine DecK.bne (fun _ => ?_) (fun _ => ?_) | refine DecK.dec (fun _ => ?_) (fun _ => ?_) | refine OptK.mk _ rfl ?_ | refine endV (by rfl) ?_) <;> (try with_reducible rfl))
        rfl
    · rw [if_neg (by simpa using g), if_neg o] at hw
      rw [if_neg (by simpa using hw)] at hx
      refine DecK.no (decide_eq_false (by omega)) ?_
      refine DecK.no (decide_eq_false (by omega)) ?_
      refine DecK.no (decide_eq_false (by omega)) ?_
      refine DecK.no (decide_eq_false (by omega)) ?_
      refine CallK.mk _ scales_ok rfl ?_
      refine DecK.ff ?_
      refine DecK.bne (fun k => absurd g k) (fun _ => ?_)
      have tq := reached_ok (rate_in g) (fr := fr) (a := a) (by omega) (by omega)
      rw [hx] at tq
      refine CallK.mk _ tq rfl ?_
      refine DecK.yes (beq_self_eq_true _) ?_
      ((repeat' first | refine DecK.tt ?_ | refine DecK.ff ?_ | refine DecK.beq (fun _ => ?_) (fun _ => ?_) | refine DecK.bne (fun _ => ?_) (fun _ => ?_) | refine DecK.dec (fun _ => ?_) (fun _ => ?_) | refine OptK.mk _ rfl ?_ | refine endV (by rfl) ?_) <;> (try with_reducible rfl))
      simp
  · rw [if_pos g] at hw
    obtain ⟨rfl, he⟩ := bad (by omega)
    rw [hw] at he
    subst he
    refine DecK.ff ?_
    refine CallK.mk _ scales_ok rfl ?_
    refine DecK.ff ?_
    refine DecK.yes (bne_iff_ne.2 g) ?_
    refine CallK.mk _ scales_ok rfl ?_
    refine DecK.tt ?_
    refine DecK.yes (beq_self_eq_true _) ?_
    ((repeat' first | refine DecK.tt ?_ | refine DecK.ff ?_ | refine DecK.beq (fun _ => ?_) (fun _ => ?_) | refine DecK.bne (fun _ => ?_) (fun _ => ?_) | refine DecK.dec (fun _ => ?_) (fun _ => ?_) | refine OptK.mk _ rfl ?_ | refine endV (by rfl) ?_) <;> (try with_reducible rfl))
    rfl
end Go.Proofs.Ytpggblmopgfloaa.Sv

/- Bounds of two numbers: the statement of least, greatest, absolute value, hull and meet. No condition. -/
import Derived.Test.YtpggblmopgfloaaByFix
import Derived.Test.YtpggblmopgfloaaBo
namespace Go.Proofs.Ytpggblmopgfloaa.Sv
open Go Go.RowKit
set_option linter.unusedVariables false
set_option linter.unusedSimpArgs false
set_option maxRecDepth 100000
/-- spyglass/spylaw1.BoundPairs$1 -/
def F38 : Fn1 := ⟨15, .seq (.reg [⟨some 3, none, .box, [.tm 0]⟩, ⟨some 4, none, .box, [.tm 1]⟩, ⟨some 6, none, .alloc [.b false, .sl 0 [] true], []⟩] [2, 3, 4, 6]) (.seq (.seq (.reg [⟨some 7, none, .ld true 2 false, [.tm 3]⟩, ⟨some 8, none, .ld true 2 false, [.tm 4]⟩, ⟨some 9, none, .call 14, [.tm 7, .tm 8]⟩, ⟨some 10, none, .po (.bin .lss), [.tm 9, .cn (.n .i64 0)]⟩, ⟨some 11, none, .mv, [.tm 2]⟩, ⟨some 12, none, .po (.beq false), [.tm 10, .tm 11]⟩] [3, 4, 6, 12]) (.cond (.tm 12) (.seq (.reg [⟨some 13, none, .ld true 2 false, [.tm 3]⟩, ⟨none, none, .st 2, [.tm 6, .tm 13]⟩] [6]) .ret) .skip)) (.seq (.reg [⟨some 14, none, .ld true 2 false, [.tm 4]⟩, ⟨none, none, .st 2, [.tm 6, .tm 14]⟩] [6]) .ret)), [.cell 6 true 2]⟩
theorem of38 : Fn1.of Try.prog 38 ⟨false, [], false⟩ [[2, 3, 4, 6], [3, 4, 6, 12], [6], [6]] = some F38 := by kernel_rfl
/-- spyglass/spylaw1.BoundPairs -/
def F5 : Fn1 := ⟨159, .seq (.reg [⟨some 2, none, .box, [.tm 0]⟩, ⟨some 3, none, .box, [.tm 1]⟩, ⟨some 4, none, .mv, [.cn (.b false)]⟩] [2, 3]) (.seq (.reg [⟨some 23, none, .ld true 3 false, [.tm 2]⟩, ⟨some 24, none, .call 13, [.tm 23]⟩, ⟨some 22, none, .mv, [.tm 24]⟩, ⟨some 25, none, .po (.ext 0), [.tm 22]⟩, ⟨some 26, none, .po (.ext 1), [.tm 22]⟩, ⟨some 27, none, .po (.ext 2), [.tm 22]⟩, ⟨some 5, none, .alloc [.b false, .sl 0 [] true], []⟩, ⟨some 6, none, .alloc [.b false, .sl 0 [] true], []⟩, ⟨none, none, .st 2, [.tm 5, .tm 25]⟩, ⟨none, none, .st 2, [.tm 6, .tm 26]⟩, ⟨some 7, none, .mv, [.tm 27]⟩] [2, 3, 5, 6, 7]) (.seq (.reg [⟨some 29, none, .ld true 3 false, [.tm 3]⟩, ⟨some 30, none, .call 13, [.tm 29]⟩, ⟨some 28, none, .mv, [.tm 30]⟩, ⟨some 31, none, .po (.ext 0), [.tm 28]⟩, ⟨some 32, none, .po (.ext 1), [.tm 28]⟩, ⟨some 33, none, .po (.ext 2), [.tm 28]⟩, ⟨some 8, none, .alloc [.b false, .sl 0 [] true], []⟩, ⟨some 9, none, .alloc [.b false, .sl 0 [] true], []⟩, ⟨none, none, .st 2, [.tm 8, .tm 31]⟩, ⟨none, none, .st 2, [.tm 9, .tm 32]⟩, ⟨some 10, none, .mv, [.tm 33]⟩] [2, 3, 5, 6, 7, 8, 9, 10]) (.seq (.reg [⟨some 34, none, .po (.build [.n .i64 0, .n .i64 0, .b false] [(2, 1)]), [.cn (.b true)]⟩, ⟨some 11, none, .alloc [.n .i64 0, .n .i64 0, .b false], []⟩, ⟨none, none, .st 3, [.tm 11, .tm 34]⟩] [2, 3, 5, 6, 7, 8, 9, 10, 11]) (.seq (.reg [⟨some 12, none, .mv, [.cn (.clo (.func 38) [] [])]⟩] [2, 3, 5, 6, 7, 8, 9, 10, 11, 12]) (.seq (.dreg [⟨some 35, none, .ld true 3 false, [.tm 11]⟩, ⟨some 36, none, .ld true 3 false, [.tm 11]⟩, ⟨some 37, none, .ld true 3 false, [.tm 11]⟩, ⟨some 38, none, .ld true 3 false, [.tm 11]⟩, ⟨some 13, none, .alloc [.n .i64 0, .n .i64 0, .b false], []⟩, ⟨some 14, none, .alloc [.n .i64 0, .n .i64 0, .b false], []⟩, ⟨some 15, none, .alloc [.n .i64 0, .n .i64 0, .b false], []⟩, ⟨some 16, none, .alloc [.n .i64 0, .n .i64 0, .b false], []⟩, ⟨none, none, .st 3, [.tm 13, .tm 35]⟩, ⟨none, none, .st 3, [.tm 14, .tm 36]⟩, ⟨none, none, .st 3, [.tm 15, .tm 37]⟩, ⟨none, none, .st 3, [.tm 16, .tm 38]⟩] [(1, 8), (2, 8), (3, 8), (2, 9), (3, 9), (3, 10)] [2, 3, 5, 6, 7, 8, 9, 10, 11, 12, 13, 14, 15, 16]) (.seq (.seq (.reg [⟨some 39, none, .mv, [.tm 7]⟩, ⟨some 40, none, .mv, [.tm 39]⟩, ⟨some 41, some (40, true), .mv, [.tm 10]⟩, ⟨some 42, none, .pick, [.tm 40, .tm 41, .cn (.b false)]⟩] [2, 3, 5, 6, 7, 8, 9, 10, 11, 12, 13, 14, 15, 16, 42]) (.cond (.tm 42) (.seq (.dreg [⟨some 43, none, .mv, [.tm 12]⟩, ⟨some 44, none, .ld true 2 false, [.tm 5]⟩, ⟨some 45, none, .ld true 2 false, [.tm 8]⟩, ⟨some 46, none, .callD, [.tm 43, .tm 44, .tm 45, .cn (.b true)]⟩, ⟨some 47, none, .mv, [.tm 12]⟩, ⟨some 48, none, .ld true 2 false, [.tm 6]⟩, ⟨some 49, none, .ld true 2 false, [.tm 9]⟩, ⟨some 50, none, .callD, [.tm 47, .tm 48, .tm 49, .cn (.b true)]⟩, ⟨some 51, none, .call 23, [.tm 46, .tm 50]⟩, ⟨some 52, none, .mv, [.tm 12]⟩, ⟨some 53, none, .ld true 2 false, [.tm 5]⟩, ⟨some 54, none, .ld true 2 false, [.tm 8]⟩, ⟨some 55, none, .callD, [.tm 52, .tm 53, .tm 54, .cn (.b false)]⟩, ⟨some 56, none, .mv, [.tm 12]⟩, ⟨some 57, none, .ld true 2 false, [.tm 6]⟩, ⟨some 58, none, .ld true 2 false, [.tm 9]⟩, ⟨some 59, none, .callD, [.tm 56, .tm 57, .tm 58, .cn (.b false)]⟩, ⟨some 60, none, .call 23, [.tm 55, .tm 59]⟩, ⟨none, none, .st 3, [.tm 13, .tm 51]⟩, ⟨none, none, .st 3, [.tm 14, .tm 60]⟩] [] [2, 3, 5, 6, 7, 8, 9, 10, 11, 12, 13, 14, 15, 16]) (.dreg [⟨some 61, none, .mv, [.tm 12]⟩, ⟨some 62, none, .ld true 2 false, [.tm 5]⟩, ⟨some 63, none, .ld true 2 false, [.tm 8]⟩, ⟨some 64, none, .callD, [.tm 61, .tm 62, .tm 63, .cn (.b true)]⟩, ⟨some 65, none, .mv, [.tm 12]⟩, ⟨some 66, none, .ld true 2 false, [.tm 6]⟩, ⟨some 67, none, .ld true 2 false, [.tm 9]⟩, ⟨some 68, none, .callD, [.tm 65, .tm 66, .tm 67, .cn (.b false)]⟩, ⟨some 69, none, .call 23, [.tm 64, .tm 68]⟩, ⟨none, none, .st 3, [.tm 15, .tm 69]⟩] [] [2, 3, 5, 6, 7, 8, 9, 10, 11, 12, 13, 14, 15, 16])) .skip)) (.seq (.seq (.reg [⟨some 70, none, .mv, [.tm 7]⟩] [2, 3, 5, 6, 7, 8, 9, 10, 11, 12, 13, 14, 15, 16, 70]) (.cond (.tm 70) (.seq (.reg [⟨some 71, none, .po (.build [.b false, .sl 0 [] true] []), []⟩, ⟨some 17, none, .alloc [.b false, .sl 0 [] true], []⟩, ⟨none, none, .st 2, [.tm 17, .tm 71]⟩] [2, 3, 5, 6, 7, 8, 9, 10, 11, 12, 13, 14, 15, 16, 17]) (.seq (.seq (.dreg [⟨some 72, none, .ld true 2 false, [.tm 5]⟩, ⟨some 73, none, .call 39, [.tm 72]⟩, ⟨some 74, none, .ld true 2 false, [.tm 6]⟩, ⟨some 75, none, .call 39, [.tm 74]⟩, ⟨some 76, none, .po (.bin .eql), [.tm 73, .tm 75]⟩] [] [2, 3, 5, 6, 7, 8, 9, 10, 11, 12, 13, 14, 15, 16, 17, 76]) (.cond (.tm 76) (.dreg [⟨some 77, none, .mv, [.tm 12]⟩, ⟨some 78, none, .ld true 2 false, [.tm 5]⟩, ⟨some 79, none, .call 40, [.tm 78]⟩, ⟨some 80, none, .ld true 2 false, [.tm 6]⟩, ⟨some 81, none, .call 40, [.tm 80]⟩, ⟨some 82, none, .callD, [.tm 77, .tm 79, .tm 81, .cn (.b true)]⟩, ⟨none, none, .st 2, [.tm 17, .tm 82]⟩] [] [2, 3, 5, 6, 7, 8, 9, 10, 11, 12, 13, 14, 15, 16, 17]) .skip)) (.dreg [⟨some 83, none, .ld true 2 false, [.tm 17]⟩, ⟨some 84, none, .mv, [.tm 12]⟩, ⟨some 85, none, .ld true 2 false, [.tm 5]⟩, ⟨some 86, none, .call 40, [.tm 85]⟩, ⟨some 87, none, .ld true 2 false, [.tm 6]⟩, ⟨some 88, none, .call 40, [.tm 87]⟩, ⟨some 89, none, .callD, [.tm 84, .tm 86, .tm 88, .cn (.b false)]⟩, ⟨some 90, none, .call 23, [.tm 83, .tm 89]⟩, ⟨none, none, .st 3, [.tm 16, .tm 90]⟩] [] [2, 3, 5, 6, 7, 8, 9, 10, 11, 12, 13, 14, 15, 16]))) .skip)) (.seq (.reg [⟨some 91, none, .ld true 3 false, [.tm 11]⟩, ⟨some 18, none, .alloc [.n .i64 0, .n .i64 0, .b false], []⟩, ⟨none, none, .st 3, [.tm 18, .tm 91]⟩, ⟨some 19, none, .mv, [.cn (.b true)]⟩] [2, 3, 5, 6, 7, 8, 9, 10, 12, 13, 14, 15, 16, 18, 19]) (.seq (.block 0 (.seq (.reg [⟨some 93, none, .mv, [.tm 7]⟩, ⟨some 94, none, .mv, [.tm 93]⟩, ⟨some 95, some (94, true), .mv, [.tm 10]⟩, ⟨some 96, none, .pick, [.tm 94, .tm 95, .cn (.b false)]⟩, ⟨some 92, none, .mv, [.tm 96]⟩] [2, 3, 5, 6, 7, 8, 9, 10, 12, 13, 14, 15, 16, 18, 19, 92]) (.cond (.tm 92) (.seq (.dreg [⟨some 97, none, .mv, [.tm 12]⟩, ⟨some 98, none, .ld true 2 false, [.tm 5]⟩, ⟨some 99, none, .ld true 2 false, [.tm 8]⟩, ⟨some 100, none, .callD, [.tm 97, .tm 98, .tm 99, .cn (.b false)]⟩, ⟨some 101, none, .mv, [.tm 12]⟩, ⟨some 102, none, .ld true 2 false, [.tm 6]⟩, ⟨some 103, none, .ld true 2 false, [.tm 9]⟩, ⟨some 104, none, .callD, [.tm 101, .tm 102, .tm 103, .cn (.b true)]⟩, ⟨some 105, none, .call 23, [.tm 100, .tm 104]⟩, ⟨none, none, .st 3, [.tm 18, .tm 105]⟩] [] [2, 3, 13, 14, 15, 16, 18, 19]) (.seq (.reg [⟨some 106, none, .fa 2, [.tm 18]⟩, ⟨some 107, none, .ld false 1 false, [.tm 106]⟩] [2, 3, 13, 14, 15, 16, 18, 19, 107]) (.cond (.tm 107) (.reg [⟨some 108, none, .po (.build [.n .i64 0, .n .i64 0, .b false] []), []⟩, ⟨none, none, .st 3, [.tm 18, .tm 108]⟩, ⟨some 19, none, .mv, [.cn (.b false)]⟩] [2, 3, 13, 14, 15, 16, 18, 19]) .skip))) (.seq (.reg [⟨some 110, none, .mv, [.tm 7]⟩, ⟨some 109, none, .mv, [.tm 110]⟩] [2, 3, 10, 13, 14, 15, 16, 18, 19, 109]) (.cond (.tm 109) (.reg [⟨some 111, none, .ld true 3 false, [.tm 2]⟩, ⟨none, none, .st 3, [.tm 18, .tm 111]⟩] [2, 3, 13, 14, 15, 16, 18, 19]) (.seq (.reg [⟨some 113, none, .mv, [.tm 10]⟩, ⟨some 112, none, .mv, [.tm 113]⟩] [2, 3, 13, 14, 15, 16, 18, 19, 112]) (.cond (.tm 112) (.reg [⟨some 114, none, .ld true 3 false, [.tm 3]⟩, ⟨none, none, .st 3, [.tm 18, .tm 114]⟩] [2, 3, 13, 14, 15, 16, 18, 19]) .skip))))))) (.seq (.reg [⟨some 116, none, .ld true 3 false, [.tm 2]⟩, ⟨some 117, none, .ld true 3 false, [.tm 3]⟩, ⟨some 118, none, .call 41, [.tm 116, .tm 117]⟩, ⟨some 115, none, .mv, [.tm 118]⟩, ⟨some 119, none, .po (.ext 0), [.tm 115]⟩, ⟨some 120, none, .po (.ext 1), [.tm 115]⟩, ⟨some 20, none, .alloc [.n .i64 0, .n .i64 0, .b false], []⟩, ⟨none, none, .st 3, [.tm 20, .tm 119]⟩, ⟨some 21, none, .mv, [.tm 120]⟩] [2, 3, 13, 14, 15, 16, 18, 19, 20, 21]) (.seq (.dreg [⟨some 121, none, .call 17, []⟩, ⟨some 122, none, .mv, [.tm 121]⟩, ⟨some 123, some (122, true), .ld true 3 false, [.tm 2]⟩, ⟨some 124, some (122, true), .ld true 3 false, [.tm 3]⟩, ⟨some 125, some (122, true), .call 42, [.tm 123, .tm 124]⟩, ⟨some 126, some (122, true), .ld true 3 false, [.tm 13]⟩, ⟨some 127, some (122, true), .po (.veq false [(0, .n), (1, .n), (2, .b)]), [.tm 125, .tm 126]⟩, ⟨some 128, none, .pick, [.tm 122, .tm 127, .cn (.b false)]⟩, ⟨some 129, none, .mv, [.tm 128]⟩, ⟨some 130, some (129, true), .ld true 3 false, [.tm 2]⟩, ⟨some 131, some (129, true), .ld true 3 false, [.tm 3]⟩, ⟨some 132, some (129, true), .call 43, [.tm 130, .tm 131]⟩, ⟨some 133, some (129, true), .ld true 3 false, [.tm 14]⟩, ⟨some 134, some (129, true), .po (.veq false [(0, .n), (1, .n), (2, .b)]), [.tm 132, .tm 133]⟩, ⟨some 135, none, .pick, [.tm 129, .tm 134, .cn (.b false)]⟩, ⟨some 136, none, .mv, [.tm 135]⟩, ⟨some 137, some (136, true), .ld true 3 false, [.tm 2]⟩, ⟨some 138, some (136, true), .ld true 3 false, [.tm 3]⟩, ⟨some 139, some (136, true), .call 44, [.tm 137, .tm 138]⟩, ⟨some 140, some (136, true), .ld true 3 false, [.tm 15]⟩, ⟨some 141, some (136, true), .po (.veq false [(0, .n), (1, .n), (2, .b)]), [.tm 139, .tm 140]⟩, ⟨some 142, none, .pick, [.tm 136, .tm 141, .cn (.b false)]⟩, ⟨some 143, none, .mv, [.tm 142]⟩, ⟨some 144, some (143, true), .ld true 3 false, [.tm 2]⟩, ⟨some 145, some (143, true), .call 45, [.tm 144]⟩, ⟨some 146, some (143, true), .ld true 3 false, [.tm 16]⟩, ⟨some 147, some (143, true), .po (.veq false [(0, .n), (1, .n), (2, .b)]), [.tm 145, .tm 146]⟩, ⟨some 148, none, .pick, [.tm 143, .tm 147, .cn (.b false)]⟩, ⟨some 149, none, .mv, [.tm 148]⟩, ⟨some 150, some (149, true), .ld true 3 false, [.tm 20]⟩, ⟨some 151, some (149, true), .ld true 3 false, [.tm 18]⟩, ⟨some 152, some (149, true), .po (.veq false [(0, .n), (1, .n), (2, .b)]), [.tm 150, .tm 151]⟩, ⟨some 153, none, .pick, [.tm 149, .tm 152, .cn (.b false)]⟩, ⟨some 154, none, .mv, [.tm 153]⟩, ⟨some 155, some (154, true), .mv, [.tm 21]⟩, ⟨some 156, some (154, true), .mv, [.tm 19]⟩, ⟨some 157, some (154, true), .po (.beq false), [.tm 155, .tm 156]⟩, ⟨some 158, none, .pick, [.tm 154, .tm 157, .cn (.b false)]⟩, ⟨some 4, none, .mv, [.tm 158]⟩] [] [4]) .ret))))))))))), [.tm 4]⟩
theorem of5 : Fn1.of Try.prog 5 ⟨false, [], false⟩ [[2, 3], [2, 3, 5, 6, 7], [2, 3, 5, 6, 7, 8, 9, 10], [2, 3, 5, 6, 7, 8, 9, 10, 11], [2, 3, 5, 6, 7, 8, 9, 10, 11, 12], [2, 3, 5, 6, 7, 8, 9, 10, 11, 12, 13, 14, 15, 16], [2, 3, 5, 6, 7, 8, 9, 10, 11, 12, 13, 14, 15, 16, 42], [2, 3, 5, 6, 7, 8, 9, 10, 11, 12, 13, 14, 15, 16], [2, 3, 5, 6, 7, 8, 9, 10, 11, 12, 13, 14, 15, 16], [2, 3, 5, 6, 7, 8, 9, 10, 11, 12, 13, 14, 15, 16, 70], [2, 3, 5, 6, 7, 8, 9, 10, 11, 12, 13, 14, 15, 16, 17], [2, 3, 5, 6, 7, 8, 9, 10, 11, 12, 13, 14, 15, 16, 17, 76], [2, 3, 5, 6, 7, 8, 9, 10, 11, 12, 13, 14, 15, 16, 17], [2, 3, 5, 6, 7, 8, 9, 10, 11, 12, 13, 14, 15, 16], [2, 3, 5, 6, 7, 8, 9, 10, 12, 13, 14, 15, 16, 18, 19], [2, 3, 5, 6, 7, 8, 9, 10, 12, 13, 14, 15, 16, 18, 19, 92], [2, 3, 13, 14, 15, 16, 18, 19], [2, 3, 13, 14, 15, 16, 18, 19, 107], [2, 3, 13, 14, 15, 16, 18, 19], [2, 3, 10, 13, 14, 15, 16, 18, 19, 109], [2, 3, 13, 14, 15, 16, 18, 19], [2, 3, 13, 14, 15, 16, 18, 19, 112], [2, 3, 13, 14, 15, 16, 18, 19], [2, 3, 13, 14, 15, 16, 18, 19, 20, 21], [4]] = some F5 := by kernel_rfl
/-- The closure that picks one of two. -/
theorem pick_ok (a b : Int) (less : Bool) (ha : zok a) (hb : zok b) : Pure Try.prog 38 ([] ++ [zV a, zV b, .b less] ++ []) (zV (if less then min a b else max a b)) := by
  refine pure_of_wp of38 (Nat.le_of_ble_eq_true rfl) ?_
  refine CallK.mk _ (Cmp_ok a b ha hb) rfl ?_
  by_cases h : a < b
  · have h' : decide (icmp a b < 0) = true := decide_eq_true (icmp_lt0.2 h)
    cases less
    · refine DecK.no (by rw [h']; rfl) ?_
      ((repeat' first | refine DecK.tt ?_ | refine DecK.ff ?_ | refine DecK.beq (fun _ => ?_) (fun _ => ?_) | refine DecK.bne (fun _ => ?_) (fun _ => ?_) | refine DecK.dec (fun _ => ?_) (fun _ => ?_) | refine OptK.mk _ rfl ?_ | refine endV (by rfl) ?_) <;> (try with_reducible rfl))
      rw [show max a b = b by omega]; rfl
    · refine DecK.yes (by rw [h']; rfl) ?_
      ((repeat' first | refine DecK.tt ?_ | refine DecK.ff ?_ | refine DecK.beq (fun _ => ?_) (fun _ => ?_) | refine DecK.bne (fun _ => ?_) (fun _ => ?_) | refine DecK.dec (fun _ => ?_) (fun _ => ?_) | refine OptK.mk _ rfl ?_ | refine endV (by rfl) ?_) <;> (try with_reducible rfl))
      rw [show min a b = a by omega]; rfl
  · have h' : decide (icmp a b < 0) = false := decide_eq_false fun k => h (icmp_lt0.1 k)
    cases less
    · refine DecK.yes (by rw [h']; rfl) ?_
      ((repeat' first | refine DecK.tt ?_ | refine DecK.ff ?_ | refine DecK.beq (fun _ => ?_) (fun _ => ?_) | refine DecK.bne (fun _ => ?_) (fun _ => ?_) | refine DecK.dec (fun _ => ?_) (fun _ => ?_) | refine OptK.mk _ rfl ?_ | refine endV (by rfl) ?_) <;> (try with_reducible rfl))
      rw [show max a b = a by omega]; rfl
    · refine DecK.no (by rw [h']; rfl) ?_
      ((repeat' first | refine DecK.tt ?_ | refine DecK.ff ?_ | refine DecK.beq (fun _ => ?_) (fun _ => ?_) | refine DecK.bne (fun _ => ?_) (fun _ => ?_) | refine DecK.dec (fun _ => ?_) (fun _ => ?_) | refine OptK.mk _ rfl ?_ | refine endV (by rfl) ?_) <;> (try with_reducible rfl))
      rw [show min a b = b by omega]; rfl
theorem pickMin (a b : Int) (ha : zok a) (hb : zok b) : Pure Try.prog 38 ([] ++ [zV a, zV b, .b true] ++ []) (zV (min a b)) := pick_ok a b true ha hb
theorem pickMax (a b : Int) (ha : zok a) (hb : zok b) : Pure Try.prog 38 ([] ++ [zV a, zV b, .b false] ++ []) (zV (max a b)) := pick_ok a b false ha hb
theorem zok_in {a : Int} (h : -1152921504606846976 ≤ a ∧ a ≤ 1152921504606846976) : zok a := (show fits a by unfold fits; omega).zb.mono (by decide)
theorem abs_mk {lo hi : Int} (h : -1152921504606846976 ≤ lo ∧ lo ≤ hi ∧ hi ≤ 1152921504606846976) :
    (sgn lo = sgn hi → absB (some (lo, hi)) = mkB (min (lo.natAbs : Int) (hi.natAbs : Int)) (max (lo.natAbs : Int) (hi.natAbs : Int))) ∧ (¬ sgn lo = sgn hi → absB (some (lo, hi)) = mkB 0 (max (lo.natAbs : Int) (hi.natAbs : Int))) := by
  have k : ∀ x : Int, (x < 0 ∧ sgn x = -1) ∨ (x = 0 ∧ sgn x = 0) ∨ (0 < x ∧ sgn x = 1) := fun x => by unfold sgn; split <;> (try split) <;> omega
  have k1 := k lo
  have k2 := k hi
  generalize sgn lo = a at *
  generalize sgn hi = b at *
  constructor
  · intro s
    rw [mkB_some (by unfold bval; omega), absB, if_neg (by simp only; omega)]
    simp only [maxB, Option.some.injEq, Prod.mk.injEq]
    omega
  · intro s
    rw [mkB_some (by unfold bval; omega), absB]
    simp only
    split
    · simp only [Option.some.injEq, Prod.mk.injEq, true_and]
      omega
    · simp only [maxB, Option.some.injEq, Prod.mk.injEq]
      omega
set_option maxHeartbeats 4000000 in
theorem boundPairs_pure (lo hi : Int) (u : Bool) (lo' hi' : Int) (u' : Bool) : Pure Try.prog 5 [bdV lo hi u, bdV lo' hi' u'] (.b true) := by
  have t1 := minFix lo hi u lo' hi' u'
  have t2 := maxFix lo hi u lo' hi' u'
  have t3 := hullFix lo hi u lo' hi' u'
  have t4 := absFix lo hi u
  have t5 := meetFix lo hi u lo' hi' u'
  refine pure_of_wp of5 (Nat.le_of_ble_eq_true rfl) ?_
  refine CallK.mk _ (sidesFix lo hi u) rfl ?_
  repeat' (refine OptK.mk _ rfl ?_)
  refine CallK.mk _ (sidesFix lo' hi' u') rfl ?_
  repeat' (refine OptK.mk _ rfl ?_)
  rcases bd_cases lo hi u with ⟨h1, h2⟩ | ⟨h1, rfl, h3, h2⟩
  · rw [h1] at t1 t2 t3 t4 t5
    rw [h1]
    rcases bd_cases lo' hi' u' with ⟨g1, g2⟩ | ⟨g1, rfl, g3, g2⟩
    · rw [g1] at t1 t2 t3 t5
      rw [g1]
      repeat' first | (refine DecK.no rfl ?_) | (refine DecK.ff ?_) | (refine OptK.mk _ rfl ?_)
      refine CallK.mk _ t5 rfl ?_
      refine OptK.mk _ rfl ?_
      ((refine CallK.mk _ bounds_ok rfl ?_); (refine DecK.tt ?_); (refine CallK.mk _ t1 rfl ?_); (refine OptK.mk _ (eqBf _) ?_); (refine DecK.tt ?_); (refine CallK.mk _ t2 rfl ?_); (refine OptK.mk _ (eqBf _) ?_); (refine DecK.tt ?_); (refine CallK.mk _ t3 rfl ?_); (refine OptK.mk _ (eqBf _) ?_); (refine DecK.tt ?_); (refine CallK.mk _ t4 rfl ?_); (refine OptK.mk _ (eqBf _) ?_); (refine DecK.tt ?_); (refine OptK.mk _ (eqBf _) ?_); (refine DecK.tt ?_); ((repeat' first | refine DecK.tt ?_ | refine DecK.ff ?_ | refine DecK.beq (fun _ => ?_) (fun _ => ?_) | refine DecK.bne (fun _ => ?_) (fun _ => ?_) | refine DecK.dec (fun _ => ?_) (fun _ => ?_) | refine OptK.mk _ rfl ?_ | refine endV (by rfl) ?_) <;> (try with_reducible rfl)); rfl)
    · rw [g1] at t1 t2 t3 t5
      rw [g1]
      repeat' first | (refine DecK.no rfl ?_) | (refine DecK.ff ?_) | (refine OptK.mk _ rfl ?_)
      refine DecK.yes rfl ?_
      repeat' first | (refine DecK.no rfl ?_) | (refine DecK.ff ?_) | (refine OptK.mk _ rfl ?_)
      refine CallK.mk _ t5 rfl ?_
      refine OptK.mk _ rfl ?_
      ((refine CallK.mk _ bounds_ok rfl ?_); (refine DecK.tt ?_); (refine CallK.mk _ t1 rfl ?_); (refine OptK.mk _ (eqBf _) ?_); (refine DecK.tt ?_); (refine CallK.mk _ t2 rfl ?_); (refine OptK.mk _ (eqBf _) ?_); (refine DecK.tt ?_); (refine CallK.mk _ t3 rfl ?_); (refine OptK.mk _ (eqBf _) ?_); (refine DecK.tt ?_); (refine CallK.mk _ t4 rfl ?_); (refine OptK.mk _ (eqBf _) ?_); (refine DecK.tt ?_); (refine OptK.mk _ (eqBf _) ?_); (refine DecK.tt ?_); ((repeat' first | refine DecK.tt ?_ | refine DecK.ff ?_ | refine DecK.beq (fun _ => ?_) (fun _ => ?_) | refine DecK.bne (fun _ => ?_) (fun _ => ?_) | refine DecK.dec (fun _ => ?_) (fun _ => ?_) | refine OptK.mk _ rfl ?_ | refine endV (by rfl) ?_) <;> (try with_reducible rfl)); rfl)
  · have h4 := h3
    unfold bval at h3
    rw [h1] at t1 t2 t3 t4 t5
    rw [h1]
    have za : zok lo := zok_in (by omega)
    have zb' : zok hi := zok_in (by omega)
    have zl : zok (lo.natAbs : Int) := zok_in (by omega)
    have zh : zok (hi.natAbs : Int) := zok_in (by omega)
    have b5 := boundedFix (min (lo.natAbs : Int) (hi.natAbs : Int)) (max (lo.natAbs : Int) (hi.natAbs : Int)) (zok_in (by omega)) (zok_in (by omega))
    have b6 := Pure.of (.cons (show VLe (.agg [.b false, .sl 0 [] true]) (zV 0) from zNone) (.cons (.refl _) .nil)) (boundedFix 0 (max (lo.natAbs : Int) (hi.natAbs : Int)) (zok_in (by omega)) (zok_in (by omega)))
    rcases bd_cases lo' hi' u' with ⟨g1, g2⟩ | ⟨g1, rfl, g3, g2⟩
    · rw [g1] at t1 t2 t3 t5
      rw [g1]
      refine DecK.yes rfl ?_
      refine DecK.no rfl ?_
      refine DecK.yes rfl ?_
      repeat' (refine OptK.mk _ rfl ?_)
      refine CallK.mk _ (Sign_ok lo) rfl ?_
      refine CallK.mk _ (Sign_ok hi) rfl ?_
      refine DecK.beq (fun s => ?_) (fun s => ?_)
      case' refine_1 =>
        rw [(abs_mk (lo := lo) (hi := hi) (by omega)).1 s] at t4
        refine CallK.mk _ (Abs_ok lo) rfl ?_
        refine CallK.mk _ (Abs_ok hi) rfl ?_
        refine CallK.mk _ (pickMin _ _ zl zh) rfl ?_
        refine OptK.mk _ rfl ?_
        refine CallK.mk _ (Abs_ok lo) rfl ?_
        refine CallK.mk _ (Abs_ok hi) rfl ?_
        refine CallK.mk _ (pickMax _ _ zl zh) rfl ?_
        refine CallK.mk _ b5 rfl ?_
        repeat' (refine OptK.mk _ rfl ?_)
      case' refine_2 =>
        rw [(abs_mk (lo := lo) (hi := hi) (by omega)).2 s] at t4
        refine CallK.mk _ (Abs_ok lo) rfl ?_
        refine CallK.mk _ (Abs_ok hi) rfl ?_
        refine CallK.mk _ (pickMax _ _ zl zh) rfl ?_
        refine CallK.mk _ b6 rfl ?_
        repeat' (refine OptK.mk _ rfl ?_)
      all_goals
        refine DecK.yes rfl ?_
        refine DecK.no rfl ?_
        refine DecK.yes rfl ?_
        repeat' first | (refine DecK.no rfl ?_) | (refine DecK.ff ?_) | (refine OptK.mk _ rfl ?_)
        refine CallK.mk _ t5 rfl ?_
        refine OptK.mk _ rfl ?_
        ((refine CallK.mk _ bounds_ok rfl ?_); (refine DecK.tt ?_); (refine CallK.mk _ t1 rfl ?_); (refine OptK.mk _ (eqBf _) ?_); (refine DecK.tt ?_); (refine CallK.mk _ t2 rfl ?_); (refine OptK.mk _ (eqBf _) ?_); (refine DecK.tt ?_); (refine CallK.mk _ t3 rfl ?_); (refine OptK.mk _ (eqBf _) ?_); (refine DecK.tt ?_); (refine CallK.mk _ t4 rfl ?_); (refine OptK.mk _ (eqBf _) ?_); (refine DecK.tt ?_); (refine OptK.mk _ (eqBf _) ?_); (refine DecK.tt ?_); ((repeat' first | refine DecK.tt ?_ | refine DecK.ff ?_ | refine DecK.beq (fun _ => ?_) (fun _ => ?_) | refine DecK.bne (fun _ => ?_) (fun _ => ?_) | refine DecK.dec (fun _ => ?_) (fun _ => ?_) | refine OptK.mk _ rfl ?_ | refine endV (by rfl) ?_) <;> (try with_reducible rfl)); rfl)
    · have g4 := g3
      unfold bval at g3
      have zc : zok lo' := zok_in (by omega)
      have zd : zok hi' := zok_in (by omega)
      have b1 := boundedFix (min lo lo') (min hi hi') (zok_in (by omega)) (zok_in (by omega))
      have b2 := boundedFix (max lo lo') (max hi hi') (zok_in (by omega)) (zok_in (by omega))
      have b3 := boundedFix (min lo lo') (max hi hi') (zok_in (by omega)) (zok_in (by omega))
      have b4 := boundedFix (max lo lo') (min hi hi') (zok_in (by omega)) (zok_in (by omega))
      rw [mkB_some (by unfold bval; omega)] at b1 b2 b3
      rw [g1] at t1 t2 t3 t5
      rw [g1]
      refine DecK.yes rfl ?_
      refine DecK.yes rfl ?_
      refine CallK.mk _ (pickMin _ _ za zc) rfl ?_
      refine CallK.mk _ (pickMin _ _ zb' zd) rfl ?_
      refine CallK.mk _ b1 rfl ?_
      refine CallK.mk _ (pickMax _ _ za zc) rfl ?_
      refine CallK.mk _ (pickMax _ _ zb' zd) rfl ?_
      refine CallK.mk _ b2 rfl ?_
      repeat' (refine OptK.mk _ rfl ?_)
      refine CallK.mk _ (pickMin _ _ za zc) rfl ?_
      refine CallK.mk _ (pickMax _ _ zb' zd) rfl ?_
      refine CallK.mk _ b3 rfl ?_
      repeat' (refine OptK.mk _ rfl ?_)
      refine DecK.yes rfl ?_
      repeat' (refine OptK.mk _ rfl ?_)
      refine CallK.mk _ (Sign_ok lo) rfl ?_
      refine CallK.mk _ (Sign_ok hi) rfl ?_
      refine DecK.beq (fun s => ?_) (fun s => ?_)
      case' refine_1 =>
        rw [(abs_mk (lo := lo) (hi := hi) (by omega)).1 s] at t4
        refine CallK.mk _ (Abs_ok lo) rfl ?_
        refine CallK.mk _ (Abs_ok hi) rfl ?_
        refine CallK.mk _ (pickMin _ _ zl zh) rfl ?_
        refine OptK.mk _ rfl ?_
        refine CallK.mk _ (Abs_ok lo) rfl ?_
        refine CallK.mk _ (Abs_ok hi) rfl ?_
        refine CallK.mk _ (pickMax _ _ zl zh) rfl ?_
        refine CallK.mk _ b5 rfl ?_
        repeat' (refine OptK.mk _ rfl ?_)
      case' refine_2 =>
        rw [(abs_mk (lo := lo) (hi := hi) (by omega)).2 s] at t4
        refine CallK.mk _ (Abs_ok lo) rfl ?_
        refine CallK.mk _ (Abs_ok hi) rfl ?_
        refine CallK.mk _ (pickMax _ _ zl zh) rfl ?_
        refine CallK.mk _ b6 rfl ?_
        repeat' (refine OptK.mk _ rfl ?_)
      all_goals
        refine DecK.yes rfl ?_
        refine DecK.yes rfl ?_
        refine CallK.mk _ (pickMax _ _ za zc) rfl ?_
        refine CallK.mk _ (pickMin _ _ zb' zd) rfl ?_
        refine CallK.mk _ b4 rfl ?_
        refine OptK.mk _ rfl ?_
        by_cases k : max lo lo' > min hi hi'
        · rw [mkB_none (by unfold bval; omega)]
          rw [show meetB (some (lo, hi)) (some (lo', hi')) = (some (0, 0), false) from if_pos k] at t5
          refine DecK.yes rfl ?_
          repeat' first | (refine DecK.no rfl ?_) | (refine DecK.ff ?_) | (refine OptK.mk _ rfl ?_)
          refine CallK.mk _ t5 rfl ?_
          refine OptK.mk _ rfl ?_
          ((refine CallK.mk _ bounds_ok rfl ?_); (refine DecK.tt ?_); (refine CallK.mk _ t1 rfl ?_); (refine OptK.mk _ (eqBf _) ?_); (refine DecK.tt ?_); (refine CallK.mk _ t2 rfl ?_); (refine OptK.mk _ (eqBf _) ?_); (refine DecK.tt ?_); (refine CallK.mk _ t3 rfl ?_); (refine OptK.mk _ (eqBf _) ?_); (refine DecK.tt ?_); (refine CallK.mk _ t4 rfl ?_); (refine OptK.mk _ (eqBf _) ?_); (refine DecK.tt ?_); (refine OptK.mk _ (eqBf _) ?_); (refine DecK.tt ?_); ((repeat' first | refine DecK.tt ?_ | refine DecK.ff ?_ | refine DecK.beq (fun _ => ?_) (fun _ => ?_) | refine DecK.bne (fun _ => ?_) (fun _ => ?_) | refine DecK.dec (fun _ => ?_) (fun _ => ?_) | refine OptK.mk _ rfl ?_ | refine endV (by rfl) ?_) <;> (try with_reducible rfl)); rfl)
        · rw [mkB_some (by unfold bval; omega)]
          rw [show meetB (some (lo, hi)) (some (lo', hi')) = (some (max lo lo', min hi hi'), true) from if_neg k] at t5
          refine DecK.no rfl ?_
          refine CallK.mk _ t5 rfl ?_
          refine OptK.mk _ rfl ?_
          ((refine CallK.mk _ bounds_ok rfl ?_); (refine DecK.tt ?_); (refine CallK.mk _ t1 rfl ?_); (refine OptK.mk _ (eqBf _) ?_); (refine DecK.tt ?_); (refine CallK.mk _ t2 rfl ?_); (refine OptK.mk _ (eqBf _) ?_); (refine DecK.tt ?_); (refine CallK.mk _ t3 rfl ?_); (refine OptK.mk _ (eqBf _) ?_); (refine DecK.tt ?_); (refine CallK.mk _ t4 rfl ?_); (refine OptK.mk _ (eqBf _) ?_); (refine DecK.tt ?_); (refine OptK.mk _ (eqBf _) ?_); (refine DecK.tt ?_); ((repeat' first | refine DecK.tt ?_ | refine DecK.ff ?_ | refine DecK.beq (fun _ => ?_) (fun _ => ?_) | refine DecK.bne (fun _ => ?_) (fun _ => ?_) | refine DecK.dec (fun _ => ?_) (fun _ => ?_) | refine OptK.mk _ rfl ?_ | refine endV (by rfl) ?_) <;> (try with_reducible rfl)); rfl)
end Go.Proofs.Ytpggblmopgfloaa.Sv

/- Fractions: the law FracSums. No condition. -/
import Derived.Test.YtpggblmopgfloaaFm
import Derived.Test.YtpggblmopgfloaaFi
import Derived.Test.YtpggblmopgfloaaEa
namespace Go.Proofs.Ytpggblmopgfloaa.Sv
open Go Go.RowKit
set_option linter.unusedVariables false
set_option linter.unusedSimpArgs false
set_option maxRecDepth 100000
/-- live: [6, 7, 13, 14, 15, 16, 17, 78, 79, 80] -/
def L7_0 : SC := .seq (.reg [⟨some 81, none, .po (.bin .lss), [.tm 80, .tm 79]⟩] [6, 7, 13, 14, 15, 16, 17, 78, 79, 80, 81]) (.seq (.cond (.tm 81) .skip (.exit 0)) (.seq (.block 1 (.seq (.reg [⟨some 82, none, .mv, [.tm 80]⟩, ⟨some 83, none, .ia none 1, [.tm 78, .tm 80]⟩, ⟨some 84, none, .ld false 1 true, [.tm 83]⟩, ⟨some 18, none, .mv, [.tm 82]⟩, ⟨some 19, none, .mv, [.tm 84]⟩] [6, 7, 13, 14, 15, 16, 17, 18, 19, 78, 79, 80]) (.seq (.reg [⟨some 86, none, .mv, [.tm 19]⟩, ⟨some 87, none, .ld true 2 false, [.tm 6]⟩, ⟨some 88, none, .ld true 2 false, [.tm 7]⟩, ⟨some 89, none, .callD, [.tm 86, .tm 87, .tm 88]⟩, ⟨some 85, none, .mv, [.tm 89]⟩, ⟨some 90, none, .po (.ext 0), [.tm 85]⟩, ⟨some 91, none, .po (.ext 1), [.tm 85]⟩, ⟨some 20, none, .alloc [.n .i64 0, .n .i64 0], []⟩, ⟨none, none, .st 2, [.tm 20, .tm 90]⟩, ⟨some 21, none, .mv, [.tm 91]⟩] [6, 7, 13, 14, 15, 16, 17, 18, 20, 21, 78, 79, 80]) (.seq (.reg [⟨some 92, none, .po (.build [.n .i64 0, .n .i64 0] []), []⟩, ⟨some 93, none, .mv, [.tm 13]⟩, ⟨some 22, none, .alloc [.n .i64 0, .n .i64 0], []⟩, ⟨none, none, .st 2, [.tm 22, .tm 92]⟩, ⟨some 23, none, .mv, [.tm 93]⟩] [6, 7, 13, 14, 15, 16, 17, 18, 20, 21, 22, 23, 78, 79, 80]) (.seq (.block 2 (.seq (.reg [⟨some 105, none, .mv, [.tm 13]⟩, ⟨some 106, none, .po (.bin .neq), [.tm 105, .cn (.n .i64 0)]⟩, ⟨some 104, none, .mv, [.tm 106]⟩] [6, 7, 13, 14, 15, 16, 17, 18, 20, 21, 22, 23, 78, 79, 80, 104]) (.cond (.tm 104) .skip (.seq (.reg [⟨some 108, none, .mv, [.tm 18]⟩, ⟨some 109, none, .po (.bin .eql), [.tm 108, .cn (.n .i64 0)]⟩, ⟨some 107, none, .mv, [.tm 109]⟩] [6, 7, 13, 14, 15, 16, 17, 18, 20, 21, 22, 78, 79, 80, 107]) (.cond (.tm 107) (.dreg [⟨some 111, none, .ld true 2 false, [.tm 14]⟩, ⟨some 112, none, .ld true 2 false, [.tm 17]⟩, ⟨some 113, none, .call 50, [.tm 111, .tm 112]⟩, ⟨some 114, none, .ld true 2 false, [.tm 16]⟩, ⟨some 115, none, .ld true 2 false, [.tm 15]⟩, ⟨some 116, none, .call 50, [.tm 114, .tm 115]⟩, ⟨some 117, none, .call 29, [.tm 113, .tm 116]⟩, ⟨some 118, none, .ld true 2 false, [.tm 15]⟩, ⟨some 119, none, .ld true 2 false, [.tm 17]⟩, ⟨some 120, none, .call 50, [.tm 118, .tm 119]⟩, ⟨some 121, none, .call 57, [.tm 117, .tm 120]⟩, ⟨some 110, none, .mv, [.tm 121]⟩, ⟨some 122, none, .po (.ext 0), [.tm 110]⟩, ⟨some 123, none, .po (.ext 1), [.tm 110]⟩, ⟨none, none, .st 2, [.tm 22, .tm 122]⟩, ⟨some 23, none, .mv, [.tm 123]⟩] [(13, 14)] [6, 7, 13, 14, 15, 16, 17, 20, 21, 22, 23, 78, 79, 80]) (.seq (.reg [⟨some 125, none, .mv, [.tm 18]⟩, ⟨some 126, none, .po (.bin .eql), [.tm 125, .cn (.n .i64 1)]⟩, ⟨some 124, none, .mv, [.tm 126]⟩] [6, 7, 13, 14, 15, 16, 17, 18, 20, 21, 22, 78, 79, 80, 124]) (.cond (.tm 124) (.dreg [⟨some 128, none, .ld true 2 false, [.tm 14]⟩, ⟨some 129, none, .ld true 2 false, [.tm 17]⟩, ⟨some 130, none, .call 50, [.tm 128, .tm 129]⟩, ⟨some 131, none, .ld true 2 false, [.tm 16]⟩, ⟨some 132, none, .ld true 2 false, [.tm 15]⟩, ⟨some 133, none, .call 50, [.tm 131, .tm 132]⟩, ⟨some 134, none, .call 30, [.tm 130, .tm 133]⟩, ⟨some 135, none, .ld true 2 false, [.tm 15]⟩, ⟨some 136, none, .ld true 2 false, [.tm 17]⟩, ⟨some 137, none, .call 50, [.tm 135, .tm 136]⟩, ⟨some 138, none, .call 57, [.tm 134, .tm 137]⟩, ⟨some 127, none, .mv, [.tm 138]⟩, ⟨some 139, none, .po (.ext 0), [.tm 127]⟩, ⟨some 140, none, .po (.ext 1), [.tm 127]⟩, ⟨none, none, .st 2, [.tm 22, .tm 139]⟩, ⟨some 23, none, .mv, [.tm 140]⟩] [(13, 14)] [6, 7, 13, 14, 15, 16, 17, 20, 21, 22, 23, 78, 79, 80]) (.seq (.reg [⟨some 142, none, .mv, [.tm 18]⟩, ⟨some 143, none, .po (.bin .eql), [.tm 142, .cn (.n .i64 2)]⟩, ⟨some 141, none, .mv, [.tm 143]⟩] [6, 7, 13, 14, 15, 16, 17, 20, 21, 22, 78, 79, 80, 141]) (.cond (.tm 141) (.dreg [⟨some 145, none, .ld true 2 false, [.tm 14]⟩, ⟨some 146, none, .ld true 2 false, [.tm 16]⟩, ⟨some 147, none, .call 50, [.tm 145, .tm 146]⟩, ⟨some 148, none, .ld true 2 false, [.tm 15]⟩, ⟨some 149, none, .ld true 2 false, [.tm 17]⟩, ⟨some 150, none, .call 50, [.tm 148, .tm 149]⟩, ⟨some 151, none, .call 57, [.tm 147, .tm 150]⟩, ⟨some 144, none, .mv, [.tm 151]⟩, ⟨some 152, none, .po (.ext 0), [.tm 144]⟩, ⟨some 153, none, .po (.ext 1), [.tm 144]⟩, ⟨none, none, .st 2, [.tm 22, .tm 152]⟩, ⟨some 23, none, .mv, [.tm 153]⟩] [(9, 10)] [6, 7, 13, 14, 15, 16, 17, 20, 21, 22, 23, 78, 79, 80]) (.seq (.reg [⟨some 155, none, .ld true 2 false, [.tm 16]⟩, ⟨some 156, none, .call 39, [.tm 155]⟩, ⟨some 157, none, .po (.bin .eql), [.tm 156, .cn (.n .i64 0)]⟩, ⟨some 154, none, .mv, [.tm 157]⟩] [6, 7, 13, 14, 15, 16, 17, 20, 21, 22, 78, 79, 80, 154]) (.cond (.tm 154) (.reg [⟨some 23, none, .mv, [.cn (.n .i64 1)]⟩] [6, 7, 13, 14, 15, 16, 17, 20, 21, 22, 23, 78, 79, 80]) (.dreg [⟨some 95, none, .ld true 2 false, [.tm 14]⟩, ⟨some 96, none, .ld true 2 false, [.tm 17]⟩, ⟨some 97, none, .call 50, [.tm 95, .tm 96]⟩, ⟨some 98, none, .ld true 2 false, [.tm 15]⟩, ⟨some 99, none, .ld true 2 false, [.tm 16]⟩, ⟨some 100, none, .call 50, [.tm 98, .tm 99]⟩, ⟨some 101, none, .call 57, [.tm 97, .tm 100]⟩, ⟨some 94, none, .mv, [.tm 101]⟩, ⟨some 102, none, .po (.ext 0), [.tm 94]⟩, ⟨some 103, none, .po (.ext 1), [.tm 94]⟩, ⟨none, none, .st 2, [.tm 22, .tm 102]⟩, ⟨some 23, none, .mv, [.tm 103]⟩] [(9, 10)] [6, 7, 13, 14, 15, 16, 17, 20, 21, 22, 23, 78, 79, 80])))))))))))) (.seq (.reg [⟨some 158, none, .ld true 2 false, [.tm 20]⟩, ⟨some 159, none, .ld true 2 false, [.tm 22]⟩, ⟨some 160, none, .po (.veq true [(0, .n), (1, .n)]), [.tm 158, .tm 159]⟩, ⟨some 161, none, .mv, [.tm 160]⟩, ⟨some 162, some (161, false), .mv, [.tm 21]⟩, ⟨some 163, some (161, false), .mv, [.tm 23]⟩, ⟨some 164, some (161, false), .po (.bin .neq), [.tm 162, .tm 163]⟩, ⟨some 165, none, .pick, [.tm 161, .cn (.b true), .tm 164]⟩] [6, 7, 13, 14, 15, 16, 17, 78, 79, 80, 165]) (.cond (.tm 165) (.seq (.reg [⟨some 8, none, .mv, [.cn (.b false)]⟩] [8]) .ret) .skip))))))) (.reg [⟨some 166, none, .po (.bin .add), [.tm 80, .cn (.n .i64 1)]⟩, ⟨some 80, none, .mv, [.tm 166]⟩] [6, 7, 13, 14, 15, 16, 17, 78, 79, 80])))
/-- spyglass/spylaw1.FracSums -/
def F7 : Fn1 := ⟨167, .seq (.reg [⟨some 6, none, .box, [.tm 2]⟩, ⟨some 7, none, .box, [.tm 3]⟩, ⟨some 8, none, .mv, [.cn (.b false)]⟩] [0, 1, 6, 7]) (.seq (.reg [⟨some 25, none, .mv, [.tm 0]⟩, ⟨some 26, none, .mv, [.tm 1]⟩, ⟨some 27, none, .call 56, [.tm 25, .tm 26]⟩, ⟨some 24, none, .mv, [.tm 27]⟩, ⟨some 28, none, .po (.ext 0), [.tm 24]⟩, ⟨some 29, none, .po (.ext 1), [.tm 24]⟩, ⟨some 9, none, .alloc [.n .i64 0, .n .i64 0], []⟩, ⟨none, none, .st 2, [.tm 9, .tm 28]⟩, ⟨some 10, none, .mv, [.tm 29]⟩] [0, 1, 6, 7, 9, 10]) (.seq (.reg [⟨some 30, none, .po (.build [.n .i64 0, .n .i64 0] []), []⟩, ⟨some 11, none, .alloc [.n .i64 0, .n .i64 0], []⟩, ⟨none, none, .st 2, [.tm 11, .tm 30]⟩, ⟨some 12, none, .mv, [.cn (.n .i64 1)]⟩] [0, 1, 6, 7, 9, 10, 11, 12]) (.seq (.seq (.reg [⟨some 31, none, .mv, [.tm 1]⟩, ⟨some 32, none, .po (.bin .neq), [.tm 31, .cn (.n .i64 0)]⟩] [0, 1, 6, 7, 9, 10, 11, 12, 32]) (.cond (.tm 32) (.reg [⟨some 34, none, .mv, [.tm 0]⟩, ⟨some 35, none, .call 16, [.tm 34]⟩, ⟨some 36, none, .mv, [.tm 1]⟩, ⟨some 37, none, .call 16, [.tm 36]⟩, ⟨some 38, none, .call 57, [.tm 35, .tm 37]⟩, ⟨some 33, none, .mv, [.tm 38]⟩, ⟨some 39, none, .po (.ext 0), [.tm 33]⟩, ⟨some 40, none, .po (.ext 1), [.tm 33]⟩, ⟨none, none, .st 2, [.tm 11, .tm 39]⟩, ⟨some 12, none, .mv, [.tm 40]⟩] [6, 7, 9, 10, 11, 12]) .skip)) (.seq (.seq (.dreg [⟨some 41, none, .call 51, []⟩, ⟨some 42, none, .po (.un .not), [.tm 41]⟩, ⟨some 43, none, .mv, [.tm 42]⟩, ⟨some 44, some (43, false), .ld true 2 false, [.tm 6]⟩, ⟨some 45, some (43, false), .call 58, [.tm 44]⟩, ⟨some 46, some (43, false), .ld true 2 false, [.tm 6]⟩, ⟨some 47, some (43, false), .call 46, [.tm 46]⟩, ⟨some 48, some (43, false), .po (.bin .neq), [.tm 45, .tm 47]⟩, ⟨some 49, none, .pick, [.tm 43, .cn (.b true), .tm 48]⟩, ⟨some 50, none, .mv, [.tm 49]⟩, ⟨some 51, some (50, false), .ld true 2 false, [.tm 9]⟩, ⟨some 52, some (50, false), .ld true 2 false, [.tm 11]⟩, ⟨some 53, some (50, false), .po (.veq true [(0, .n), (1, .n)]), [.tm 51, .tm 52]⟩, ⟨some 54, none, .pick, [.tm 50, .cn (.b true), .tm 53]⟩, ⟨some 55, none, .mv, [.tm 54]⟩, ⟨some 56, some (55, false), .mv, [.tm 10]⟩, ⟨some 57, some (55, false), .mv, [.tm 12]⟩, ⟨some 58, some (55, false), .po (.bin .neq), [.tm 56, .tm 57]⟩, ⟨some 59, none, .pick, [.tm 55, .cn (.b true), .tm 58]⟩] [] [6, 7, 59]) (.cond (.tm 59) (.seq (.reg [⟨some 8, none, .mv, [.cn (.b false)]⟩] [8]) .ret) .skip)) (.seq (.reg [⟨some 60, none, .ld true 2 false, [.tm 6]⟩, ⟨some 61, none, .call 46, [.tm 60]⟩, ⟨some 13, none, .mv, [.tm 61]⟩] [6, 7, 13]) (.seq (.seq (.reg [⟨some 62, none, .mv, [.tm 13]⟩, ⟨some 63, none, .po (.bin .eql), [.tm 62, .cn (.n .i64 0)]⟩] [6, 7, 13, 63]) (.cond (.tm 63) (.reg [⟨some 64, none, .ld true 2 false, [.tm 7]⟩, ⟨some 65, none, .call 46, [.tm 64]⟩, ⟨some 13, none, .mv, [.tm 65]⟩] [6, 7, 13]) .skip)) (.seq (.dreg [⟨some 66, none, .fa 0, [.tm 6]⟩, ⟨some 67, none, .ld false 1 false, [.tm 66]⟩, ⟨some 68, none, .call 16, [.tm 67]⟩, ⟨some 69, none, .fa 1, [.tm 6]⟩, ⟨some 70, none, .ld false 1 false, [.tm 69]⟩, ⟨some 71, none, .call 16, [.tm 70]⟩, ⟨some 72, none, .fa 0, [.tm 7]⟩, ⟨some 73, none, .ld false 1 false, [.tm 72]⟩, ⟨some 74, none, .call 16, [.tm 73]⟩, ⟨some 75, none, .fa 1, [.tm 7]⟩, ⟨some 76, none, .ld false 1 false, [.tm 75]⟩, ⟨some 77, none, .call 16, [.tm 76]⟩, ⟨some 14, none, .alloc [.b false, .sl 0 [] true], []⟩, ⟨some 15, none, .alloc [.b false, .sl 0 [] true], []⟩, ⟨some 16, none, .alloc [.b false, .sl 0 [] true], []⟩, ⟨some 17, none, .alloc [.b false, .sl 0 [] true], []⟩, ⟨none, none, .st 2, [.tm 14, .tm 68]⟩, ⟨none, none, .st 2, [.tm 15, .tm 71]⟩, ⟨none, none, .st 2, [.tm 16, .tm 74]⟩, ⟨none, none, .st 2, [.tm 17, .tm 77]⟩] [] [6, 7, 13, 14, 15, 16, 17]) (.seq (.seq (.reg [⟨some 78, none, .po (.bsl 4 [.nilf] [(0, 1), (1, 1), (2, 1), (3, 1)]), [.cn (.clo (.func 59) [] []), .cn (.clo (.func 60) [] []), .cn (.clo (.func 61) [] []), .cn (.clo (.func 62) [] [])]⟩, ⟨some 79, none, .len false, [.tm 78]⟩, ⟨some 80, none, .mv, [.cn (.n .i64 0)]⟩] [6, 7, 13, 14, 15, 16, 17, 78, 79, 80]) (.block 0 (.loop [6, 7, 13, 14, 15, 16, 17, 78, 79, 80] L7_0))) (.seq (.reg [⟨some 8, none, .mv, [.cn (.b true)]⟩] [8]) .ret))))))))), [.tm 8]⟩
theorem of7 : Fn1.of Try.prog 7 ⟨false, [], false⟩ [[0, 1, 6, 7], [0, 1, 6, 7, 9, 10], [0, 1, 6, 7, 9, 10, 11, 12], [0, 1, 6, 7, 9, 10, 11, 12, 32], [6, 7, 9, 10, 11, 12], [6, 7, 59], [8], [6, 7, 13], [6, 7, 13, 63], [6, 7, 13], [6, 7, 13, 14, 15, 16, 17], [6, 7, 13, 14, 15, 16, 17, 78, 79, 80], [6, 7, 13, 14, 15, 16, 17, 78, 79, 80], [6, 7, 13, 14, 15, 16, 17, 78, 79, 80, 81], [6, 7, 13, 14, 15, 16, 17, 18, 19, 78, 79, 80], [6, 7, 13, 14, 15, 16, 17, 18, 20, 21, 78, 79, 80], [6, 7, 13, 14, 15, 16, 17, 18, 20, 21, 22, 23, 78, 79, 80], [6, 7, 13, 14, 15, 16, 17, 18, 20, 21, 22, 23, 78, 79, 80, 104], [6, 7, 13, 14, 15, 16, 17, 18, 20, 21, 22, 78, 79, 80, 107], [6, 7, 13, 14, 15, 16, 17, 20, 21, 22, 23, 78, 79, 80], [6, 7, 13, 14, 15, 16, 17, 18, 20, 21, 22, 78, 79, 80, 124], [6, 7, 13, 14, 15, 16, 17, 20, 21, 22, 23, 78, 79, 80], [6, 7, 13, 14, 15, 16, 17, 20, 21, 22, 78, 79, 80, 141], [6, 7, 13, 14, 15, 16, 17, 20, 21, 22, 23, 78, 79, 80], [6, 7, 13, 14, 15, 16, 17, 20, 21, 22, 78, 79, 80, 154], [6, 7, 13, 14, 15, 16, 17, 20, 21, 22, 23, 78, 79, 80], [6, 7, 13, 14, 15, 16, 17, 20, 21, 22, 23, 78, 79, 80], [6, 7, 13, 14, 15, 16, 17, 78, 79, 80, 165], [8], [6, 7, 13, 14, 15, 16, 17, 78, 79, 80], [8]] = some F7 := by kernel_rfl
theorem neFr {objs : List (Nat × List V)} (x y : Int) : (SO.po (.veq true [(0, .n), (1, .n)])).rdx objs [.v (fracV x y), .v (fracV x y)] = some (.v (.b false)) := by
  simp [SO.rdx, SO.rd, allV, PO.run, veqV, eqLv, eqk]
theorem zb11 {x : Int} (h : -1000000000000000000000000000000000000000000000000000000000000000000 < x ∧ x < 1000000000000000000000000000000000000000000000000000000000000000000) : zb 11 x := by unfold zb; omega
theorem makeT_tup (n d : Int) : ∃ x y e, makeT n d = .tup [fracV x y, .n .i64 e] := by
  unfold makeT
  split
  · exact ⟨_, _, _, rfl⟩
  · split
    · exact lowT_tup _ _
    · exact lowT_tup _ _
set_option maxHeartbeats 4000000 in
theorem fracSums_pure (n d p q r s : Int) (hn : fits n) (hd : fits d) (h1 : fits p) (h2 : fits q) (h3 : fits r) (h4 : fits s) : Pure Try.prog 7 [.n .i64 n, .n .i64 d, fracV p q, fracV r s] (.b true) := by
  have tm := make_ok n d hn hd
  have tc := frCheck_ok p q h1 h2
  have te := fracErr_ok p q h1 h2
  have tf := fracErr_ok r s h3 h4
  obtain ⟨x, y, e, hx⟩ := makeT_tup n d
  rw [hx] at tm
  refine pure_of_wp of7 (Nat.le_of_ble_eq_true rfl) ?_
  refine CallK.mk _ tm rfl ?_
  refine OptK.mk _ rfl ?_
  refine OptK.mk _ rfl ?_
  refine DecK.bne (fun g => ?_) (fun g => ?_)
  case' refine_1 =>
    have tl := lowest_ok n d (hn.zb.mono (by decide)) (hd.zb.mono (by decide)) g
    rw [show (if d < 0 then lowT (-n) (-d) else lowT n d) = makeT n d from by rw [makeT, if_neg g], hx] at tl
    refine CallK.mk _ (I_ok n hn) rfl ?_
    refine CallK.mk _ (I_ok d hd) rfl ?_
    refine CallK.mk _ tl rfl ?_
    refine OptK.mk _ rfl ?_
  case' refine_2 =>
    rw [makeT, if_pos g] at hx
    simp only [V.tup.injEq, List.cons.injEq, V.agg.injEq, V.n.injEq, true_and, and_true] at hx
    obtain ⟨⟨rfl, rfl⟩, rfl⟩ := hx
  all_goals
    refine CallK.mk _ fracs_ok rfl ?_
    refine DecK.ff ?_
    refine CallK.mk _ tc rfl ?_
    refine CallK.mk _ te rfl ?_
    refine DecK.bne (fun h => absurd rfl h) (fun _ => ?_)
    repeat' first | (refine DecK.tt ?_) | (refine DecK.ff ?_) | (refine DecK.bne (fun h => absurd rfl h) (fun _ => ?_)) | (refine OptK.mk _ (neFr _ _) ?_) | (refine OptK.mk _ rfl ?_) | (refine DecK.yes rfl ?_) | (refine DecK.no rfl ?_)
    refine CallK.mk _ te rfl ?_
  all_goals
    by_cases a1 : frErr p q = 0
    case' neg =>
      refine DecK.no (beq_eq_false_iff_ne.2 a1) ?_
      (repeat' first | (refine CallK.mk _ (I_ok p h1) rfl ?_) | (refine CallK.mk _ (I_ok q h2) rfl ?_) | (refine CallK.mk _ (I_ok r h3) rfl ?_) | (refine CallK.mk _ (I_ok s h4) rfl ?_) | (refine OptK.mk _ rfl ?_))
      have e1 := add_err p q r s h1 h2 h3 h4 (.inl a1)
      have e2 := sub_err p q r s h1 h2 h3 h4 (.inl a1)
      have e3 := mul_err p q r s h1 h2 h3 h4 (.inl a1)
      have e4 := div_err p q r s h1 h2 h3 h4 (.inl a1)
      rw [if_pos a1] at e1 e2 e3 e4
      (repeat' first | (refine DecK.yes (bne_iff_ne.2 a1) ?_) | (refine CallK.mk _ e1 rfl ?_) | (refine CallK.mk _ e2 rfl ?_) | (refine CallK.mk _ e3 rfl ?_) | (refine CallK.mk _ e4 rfl ?_) | (refine DecK.yes rfl ?_) | (refine DecK.no rfl ?_) | (refine DecK.ff ?_) | (refine DecK.tt ?_) | (refine DecK.bne (fun h => absurd rfl h) (fun _ => ?_)) | (refine OptK.mk _ (neFr _ _) ?_) | (refine OptK.mk _ rfl ?_) | (refine endV (by rfl) rfl) | (refine loop_unroll ?_))
    case' pos =>
      refine DecK.yes (beq_iff_eq.2 a1) ?_
      refine CallK.mk _ tf rfl ?_
      (repeat' first | (refine CallK.mk _ (I_ok p h1) rfl ?_) | (refine CallK.mk _ (I_ok q h2) rfl ?_) | (refine CallK.mk _ (I_ok r h3) rfl ?_) | (refine CallK.mk _ (I_ok s h4) rfl ?_) | (refine OptK.mk _ rfl ?_))
      by_cases a2 : frErr r s = 0
      case' neg =>
        have e1 := add_err p q r s h1 h2 h3 h4 (.inr a2)
        have e2 := sub_err p q r s h1 h2 h3 h4 (.inr a2)
        have e3 := mul_err p q r s h1 h2 h3 h4 (.inr a2)
        have e4 := div_err p q r s h1 h2 h3 h4 (.inr a2)
        rw [if_neg (by simpa using a1)] at e1 e2 e3 e4
        (repeat' first | (refine DecK.yes (bne_iff_ne.2 a2) ?_) | (refine CallK.mk _ e1 rfl ?_) | (refine CallK.mk _ e2 rfl ?_) | (refine CallK.mk _ e3 rfl ?_) | (refine CallK.mk _ e4 rfl ?_) | (refine DecK.yes rfl ?_) | (refine DecK.no rfl ?_) | (refine DecK.ff ?_) | (refine DecK.tt ?_) | (refine DecK.bne (fun h => absurd rfl h) (fun _ => ?_)) | (refine OptK.mk _ (neFr _ _) ?_) | (refine OptK.mk _ rfl ?_) | (refine endV (by rfl) rfl) | (refine loop_unroll ?_))
      case' pos =>
        obtain ⟨bp, bq, gp⟩ := frErr_0 a1
        obtain ⟨br, bs, gr⟩ := frErr_0 a2
        rw [a2]
        have zp : zb 5 p := h1.zb.mono (by decide)
        have zq : zb 5 q := h2.zb.mono (by decide)
        have zr : zb 5 r := h3.zb.mono (by decide)
        have zs : zb 5 s := h4.zb.mono (by decide)
        have m1 := mulI (A := 1152921504606846976) (B := 1152921504606846976) (a := p) (b := s) (by omega) (by omega)
        have m2 := mulI (A := 1152921504606846976) (B := 1152921504606846976) (a := r) (b := q) (by omega) (by omega)
        have m3 := mulI (A := 1152921504606846976) (B := 1152921504606846976) (a := q) (b := s) (by omega) (by omega)
        have m4 := mulI (A := 1152921504606846976) (B := 1152921504606846976) (a := p) (b := r) (by omega) (by omega)
        have m5 := mulI (A := 1152921504606846976) (B := 1152921504606846976) (a := q) (b := r) (by omega) (by omega)
        have p3 : 0 < q * s := Int.mul_pos (by omega) (by omega)
        have c1 := Times_ok p s (zp.mono (by decide)) (zs.mono (by decide))
        have c2 := Times_ok r q (zr.mono (by decide)) (zq.mono (by decide))
        have c3 := Times_ok q s (zq.mono (by decide)) (zs.mono (by decide))
        have c4 := Times_ok p r (zp.mono (by decide)) (zr.mono (by decide))
        have c5 := Times_ok q r (zq.mono (by decide)) (zr.mono (by decide))
        have c6 := Plus_ok (p * s) (r * q) ((zb11 (by omega)).mono (by decide)) ((zb11 (by omega)).mono (by decide))
        have c7 := Less_ok (p * s) (r * q) ((zb11 (by omega)).mono (by decide)) ((zb11 (by omega)).mono (by decide))
        have c8 := Sign_ok r
        have l1 := lowest_ok (p * s + r * q) (q * s) (zb11 (by omega)) (zb11 (by omega)) (by omega)
        have l2 := lowest_ok (p * s - r * q) (q * s) (zb11 (by omega)) (zb11 (by omega)) (by omega)
        have l3 := lowest_ok (p * r) (q * s) (zb11 (by omega)) (zb11 (by omega)) (by omega)
        rw [if_neg (by omega)] at l1 l2 l3
        have t1 := add_ok p q r s a1 a2
        have t2 := sub_ok p q r s a1 a2
        have t3 := mul_ok p q r s a1 a2
        have t4 := div_ok p q r s a1 a2
        obtain ⟨x1, y1, e1, hx1⟩ := lowT_tup (p * s + r * q) (q * s)
        obtain ⟨x2, y2, e2, hx2⟩ := lowT_tup (p * s - r * q) (q * s)
        obtain ⟨x3, y3, e3, hx3⟩ := lowT_tup (p * r) (q * s)
        rw [hx1] at l1 t1
        rw [hx2] at l2 t2
        rw [hx3] at l3 t3
        by_cases r0 : r = 0
        case' pos =>
          have s0 : sgn r = 0 := by rw [r0]; rfl
          rw [divT, if_pos r0] at t4
          rw [s0] at c8
          (repeat' first | (refine CallK.mk _ c1 rfl ?_) | (refine CallK.mk _ c2 rfl ?_) | (refine CallK.mk _ c3 rfl ?_) | (refine CallK.mk _ c4 rfl ?_) | (refine CallK.mk _ c5 rfl ?_) | (refine CallK.mk _ c6 rfl ?_) | (refine CallK.mk _ c7 rfl ?_) | (refine CallK.mk _ c8 rfl ?_) | (refine CallK.mk _ t1 rfl ?_) | (refine CallK.mk _ t2 rfl ?_) | (refine CallK.mk _ t3 rfl ?_) | (refine CallK.mk _ t4 rfl ?_) | (refine CallK.mk _ l1 rfl ?_) | (refine CallK.mk _ l2 rfl ?_) | (refine CallK.mk _ l3 rfl ?_) | (refine DecK.yes rfl ?_) | (refine DecK.no rfl ?_) | (refine DecK.ff ?_) | (refine DecK.tt ?_) | (refine DecK.bne (fun h => absurd rfl h) (fun _ => ?_)) | (refine OptK.mk _ (neFr _ _) ?_) | (refine OptK.mk _ rfl ?_) | (refine endV (by rfl) rfl) | (refine loop_unroll ?_))
        case' neg =>
          have s0 : ¬ sgn r = 0 := by unfold sgn; split <;> (try split) <;> omega
          have l4 := lowest_ok (p * s) (q * r) (zb11 (by omega)) (zb11 (by omega)) (by intro h; rcases Int.mul_eq_zero.1 h with h | h <;> omega)
          have hd' : (if q * r < 0 then lowT (-(p * s)) (-(q * r)) else lowT (p * s) (q * r)) = divT p q r s := by
            rw [divT, if_neg r0]
            by_cases k : r < 0
            · rw [if_pos k, if_pos (Int.mul_neg_of_pos_of_neg (by omega) k), Int.mul_neg, Int.mul_neg]
            · rw [if_neg k, if_neg (by have := Int.mul_nonneg (show 0 ≤ q by omega) (show 0 ≤ r by omega); omega)]
          rw [hd'] at l4
          obtain ⟨x4, y4, e4, hx4⟩ : ∃ x y e, divT p q r s = .tup [fracV x y, .n .i64 e] := by
            unfold divT
            split
            · exact ⟨_, _, _, rfl⟩
            · split
              · exact lowT_tup _ _
              · exact lowT_tup _ _
          rw [hx4] at l4 t4
          (repeat' first | (refine DecK.no (beq_eq_false_iff_ne.2 s0) ?_) | (refine CallK.mk _ c1 rfl ?_) | (refine CallK.mk _ c2 rfl ?_) | (refine CallK.mk _ c3 rfl ?_) | (refine CallK.mk _ c4 rfl ?_) | (refine CallK.mk _ c5 rfl ?_) | (refine CallK.mk _ c6 rfl ?_) | (refine CallK.mk _ c7 rfl ?_) | (refine CallK.mk _ c8 rfl ?_) | (refine CallK.mk _ t1 rfl ?_) | (refine CallK.mk _ t2 rfl ?_) | (refine CallK.mk _ t3 rfl ?_) | (refine CallK.mk _ t4 rfl ?_) | (refine CallK.mk _ l1 rfl ?_) | (refine CallK.mk _ l2 rfl ?_) | (refine CallK.mk _ l3 rfl ?_) | (refine CallK.mk _ l4 rfl ?_) | (refine DecK.yes rfl ?_) | (refine DecK.no rfl ?_) | (refine DecK.ff ?_) | (refine DecK.tt ?_) | (refine DecK.bne (fun h => absurd rfl h) (fun _ => ?_)) | (refine OptK.mk _ (neFr _ _) ?_) | (refine OptK.mk _ rfl ?_) | (refine endV (by rfl) rfl) | (refine loop_unroll ?_))
end Go.Proofs.Ytpggblmopgfloaa.Sv

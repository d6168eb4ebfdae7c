/- Products and quotients of bounds of numbers of a type. No condition. -/
import Derived.Test.YtciigfeecmnghaaRRRRGreatRRBfFix
import Derived.Test.YtciigfeecmnghaaRRRRGreatRRZh
namespace Go.Proofs.YtciigfeecmnghaaRRRRGreatRR.Sv
open Go Go.RowKit
set_option linter.unusedVariables false
set_option linter.unusedSimpArgs false
set_option maxRecDepth 100000
/-- live: [2, 3, 5, 8, 9, 11, 22, 23, 24, 32, 33, 34] -/
def L106_0 : SC := .seq (.reg [⟨some 35, none, .po (.bin .lss), [.tm 34, .tm 33]⟩] [2, 3, 5, 8, 9, 11, 22, 23, 24, 32, 33, 34, 35]) (.seq (.cond (.tm 35) .skip (.exit 2)) (.seq (.block 3 (.seq (.reg [⟨some 36, none, .ia none 1, [.tm 32, .tm 34]⟩, ⟨some 37, none, .ld false 1 true, [.tm 36]⟩, ⟨some 13, none, .mv, [.tm 37]⟩] [2, 3, 5, 8, 9, 11, 13, 22, 23, 24, 32, 33, 34]) (.seq (.reg [⟨some 39, none, .mv, [.tm 2]⟩, ⟨some 40, none, .mv, [.tm 11]⟩, ⟨some 41, none, .mv, [.tm 13]⟩, ⟨some 42, none, .callD, [.tm 39, .tm 40, .tm 41]⟩, ⟨some 38, none, .mv, [.tm 42]⟩, ⟨some 43, none, .po (.ext 0), [.tm 38]⟩, ⟨some 44, none, .po (.ext 1), [.tm 38]⟩, ⟨some 14, none, .mv, [.tm 43]⟩, ⟨some 15, none, .mv, [.tm 44]⟩] [2, 3, 5, 8, 9, 11, 13, 14, 15, 22, 23, 24, 32, 33, 34]) (.seq (.reg [⟨some 46, none, .mv, [.tm 3]⟩, ⟨some 47, none, .mv, [.tm 11]⟩, ⟨some 48, none, .mv, [.tm 13]⟩, ⟨some 49, none, .callD, [.tm 46, .tm 47, .tm 48]⟩, ⟨some 45, none, .mv, [.tm 49]⟩, ⟨some 50, none, .po (.ext 0), [.tm 45]⟩, ⟨some 51, none, .po (.ext 1), [.tm 45]⟩, ⟨some 16, none, .mv, [.tm 50]⟩, ⟨some 17, none, .mv, [.tm 51]⟩] [2, 3, 5, 8, 9, 11, 14, 15, 16, 17, 22, 23, 24, 32, 33, 34]) (.seq (.seq (.reg [⟨some 52, none, .mv, [.tm 15]⟩, ⟨some 53, none, .po (.bin .neq), [.tm 52, .cn (.n .i64 0)]⟩, ⟨some 54, none, .mv, [.tm 53]⟩, ⟨some 55, some (54, false), .mv, [.tm 17]⟩, ⟨some 56, some (54, false), .po (.bin .neq), [.tm 55, .cn (.n .i64 0)]⟩, ⟨some 57, none, .pick, [.tm 54, .cn (.b true), .tm 56]⟩] [2, 3, 5, 8, 9, 11, 14, 16, 22, 23, 24, 32, 33, 34, 57]) (.cond (.tm 57) (.seq (.reg [⟨some 58, none, .call 33, []⟩, ⟨none, none, .st 3, [.tm 8, .tm 58]⟩] [8]) .ret) .skip)) (.reg [⟨some 59, none, .mv, [.tm 9]⟩, ⟨some 60, none, .mv, [.tm 14]⟩, ⟨some 61, none, .mv, [.tm 16]⟩, ⟨some 62, none, .po (.bsl 2 [.n .i64 0] [(0, 1), (1, 1)]), [.tm 60, .tm 61]⟩, ⟨some 63, none, .app 1 8, [.tm 59, .tm 62]⟩, ⟨some 9, none, .mv, [.tm 63]⟩] [2, 3, 5, 8, 9, 11, 22, 23, 24, 32, 33, 34])))))) (.reg [⟨some 64, none, .po (.bin .add), [.tm 34, .cn (.n .i64 1)]⟩, ⟨some 34, none, .mv, [.tm 64]⟩] [2, 3, 5, 8, 9, 11, 22, 23, 24, 32, 33, 34])))
/-- live: [2, 3, 5, 8, 9, 22, 23, 24] -/
def L106_1 : SC := .seq (.reg [⟨some 25, none, .po (.bin .lss), [.tm 24, .tm 23]⟩] [2, 3, 5, 8, 9, 22, 23, 24, 25]) (.seq (.cond (.tm 25) .skip (.exit 0)) (.seq (.block 1 (.seq (.reg [⟨some 26, none, .ia none 1, [.tm 22, .tm 24]⟩, ⟨some 27, none, .ld false 1 true, [.tm 26]⟩, ⟨some 11, none, .mv, [.tm 27]⟩] [2, 3, 5, 8, 9, 11, 22, 23, 24]) (.seq (.reg [⟨some 28, none, .fa 0, [.tm 5]⟩, ⟨some 29, none, .ld false 1 false, [.tm 28]⟩, ⟨some 30, none, .fa 1, [.tm 5]⟩, ⟨some 31, none, .ld false 1 false, [.tm 30]⟩, ⟨some 32, none, .po (.bsl 2 [.n .i64 0] [(0, 1), (1, 1)]), [.tm 29, .tm 31]⟩, ⟨some 33, none, .len false, [.tm 32]⟩, ⟨some 34, none, .mv, [.cn (.n .i64 0)]⟩] [2, 3, 5, 8, 9, 11, 22, 23, 24, 32, 33, 34]) (.block 2 (.loop [2, 3, 5, 8, 9, 11, 22, 23, 24, 32, 33, 34] L106_0))))) (.reg [⟨some 65, none, .po (.bin .add), [.tm 24, .cn (.n .i64 1)]⟩, ⟨some 24, none, .mv, [.tm 65]⟩] [2, 3, 5, 8, 9, 22, 23, 24])))
/-- spyglass/bound.corners(spyglass/api.Fix) -/
def F106 : Fn1 := ⟨71, .seq (.reg [⟨some 4, none, .box, [.tm 0]⟩, ⟨some 5, none, .box, [.tm 1]⟩, ⟨some 8, none, .alloc [.n .i64 0, .n .i64 0, .b false], []⟩] [2, 3, 4, 5, 8]) (.seq (.reg [⟨some 9, none, .adopt 1, []⟩] [2, 3, 4, 5, 8, 9]) (.seq (.seq (.reg [⟨some 18, none, .fa 0, [.tm 4]⟩, ⟨some 19, none, .ld false 1 false, [.tm 18]⟩, ⟨some 20, none, .fa 1, [.tm 4]⟩, ⟨some 21, none, .ld false 1 false, [.tm 20]⟩, ⟨some 22, none, .po (.bsl 2 [.n .i64 0] [(0, 1), (1, 1)]), [.tm 19, .tm 21]⟩, ⟨some 23, none, .len false, [.tm 22]⟩, ⟨some 24, none, .mv, [.cn (.n .i64 0)]⟩] [2, 3, 5, 8, 9, 22, 23, 24]) (.block 0 (.loop [2, 3, 5, 8, 9, 22, 23, 24] L106_1))) (.seq (.reg [⟨some 66, none, .mv, [.tm 9]⟩, ⟨some 67, none, .call 150, [.tm 66]⟩, ⟨some 68, none, .mv, [.tm 9]⟩, ⟨some 69, none, .call 151, [.tm 68]⟩, ⟨some 70, none, .call 46, [.tm 67, .tm 69]⟩, ⟨none, none, .st 3, [.tm 8, .tm 70]⟩] [8]) .ret))), [.cell 8 true 3]⟩
theorem of106 : Fn1.of Tryz.prog 106 ⟨true, [], false⟩ [[2, 3, 4, 5, 8], [2, 3, 4, 5, 8, 9], [2, 3, 5, 8, 9, 22, 23, 24], [2, 3, 5, 8, 9, 22, 23, 24], [2, 3, 5, 8, 9, 22, 23, 24, 25], [2, 3, 5, 8, 9, 11, 22, 23, 24], [2, 3, 5, 8, 9, 11, 22, 23, 24, 32, 33, 34], [2, 3, 5, 8, 9, 11, 22, 23, 24, 32, 33, 34], [2, 3, 5, 8, 9, 11, 22, 23, 24, 32, 33, 34, 35], [2, 3, 5, 8, 9, 11, 13, 22, 23, 24, 32, 33, 34], [2, 3, 5, 8, 9, 11, 13, 14, 15, 22, 23, 24, 32, 33, 34], [2, 3, 5, 8, 9, 11, 14, 15, 16, 17, 22, 23, 24, 32, 33, 34], [2, 3, 5, 8, 9, 11, 14, 16, 22, 23, 24, 32, 33, 34, 57], [8], [2, 3, 5, 8, 9, 11, 22, 23, 24, 32, 33, 34], [2, 3, 5, 8, 9, 11, 22, 23, 24, 32, 33, 34], [2, 3, 5, 8, 9, 22, 23, 24], [8]] = some F106 := by kernel_rfl
/-- spyglass/bound.Mul(spyglass/api.Fix) -/
def F41 : Fn1 := ⟨20, .seq (.reg [⟨some 3, none, .box, [.tm 0]⟩, ⟨some 4, none, .box, [.tm 1]⟩, ⟨some 5, none, .box, [.tm 2]⟩, ⟨some 6, none, .alloc [.n .i64 0, .n .i64 0, .b false], []⟩] [3, 4, 5, 6]) (.seq (.seq (.reg [⟨some 7, none, .ld true 3 false, [.tm 3]⟩, ⟨some 8, none, .ld true 3 false, [.tm 4]⟩, ⟨some 9, none, .call 104, [.tm 7, .tm 8]⟩, ⟨some 10, none, .mv, [.tm 9]⟩, ⟨some 11, some (10, false), .ld false 1 false, [.tm 5]⟩, ⟨some 12, some (10, false), .po (.bin .lss), [.tm 11, .cn (.n .i64 1)]⟩, ⟨some 13, none, .pick, [.tm 10, .cn (.b true), .tm 12]⟩] [3, 4, 5, 6, 13]) (.cond (.tm 13) (.seq (.reg [⟨some 14, none, .call 33, []⟩, ⟨none, none, .st 3, [.tm 6, .tm 14]⟩] [6]) .ret) .skip)) (.seq (.reg [⟨some 15, none, .ld true 3 false, [.tm 3]⟩, ⟨some 16, none, .ld true 3 false, [.tm 4]⟩, ⟨some 17, none, .po (.mkF (.func 107) 0), [.tm 5]⟩, ⟨some 18, none, .po (.mkF (.func 109) 0), [.tm 5]⟩, ⟨some 19, none, .call 106, [.tm 15, .tm 16, .tm 17, .tm 18]⟩, ⟨none, none, .st 3, [.tm 6, .tm 19]⟩] [6]) .ret)), [.cell 6 true 3]⟩
theorem of41 : Fn1.of Tryz.prog 41 ⟨false, [], false⟩ [[3, 4, 5, 6], [3, 4, 5, 6, 13], [6], [6]] = some F41 := by kernel_rfl
/-- spyglass/bound.Mul(spyglass/api.Fix)$1 -/
def F107 : Fn1 := ⟨13, .seq (.reg [⟨some 5, none, .mv, [.cn (.n .i64 0)]⟩, ⟨some 6, none, .mv, [.cn (.n .i64 0)]⟩] [0, 1, 2]) (.seq (.reg [⟨some 7, none, .mv, [.tm 0]⟩, ⟨some 8, none, .mv, [.tm 1]⟩, ⟨some 9, none, .ld false 1 false, [.tm 2]⟩, ⟨some 10, none, .call 108, [.tm 7, .tm 8, .tm 9]⟩, ⟨some 11, none, .po (.ext 0), [.tm 10]⟩, ⟨some 12, none, .po (.ext 1), [.tm 10]⟩, ⟨some 5, none, .mv, [.tm 11]⟩, ⟨some 6, none, .mv, [.tm 12]⟩] [5, 6]) .ret), [.tm 5, .tm 6]⟩
theorem of107 : Fn1.of Tryz.prog 107 ⟨false, [], false⟩ [[0, 1, 2], [5, 6]] = some F107 := by kernel_rfl
/-- spyglass/bound.Mul(spyglass/api.Fix)$2 -/
def F109 : Fn1 := ⟨13, .seq (.reg [⟨some 5, none, .mv, [.cn (.n .i64 0)]⟩, ⟨some 6, none, .mv, [.cn (.n .i64 0)]⟩] [0, 1, 2]) (.seq (.reg [⟨some 7, none, .mv, [.tm 0]⟩, ⟨some 8, none, .mv, [.tm 1]⟩, ⟨some 9, none, .ld false 1 false, [.tm 2]⟩, ⟨some 10, none, .call 110, [.tm 7, .tm 8, .tm 9]⟩, ⟨some 11, none, .po (.ext 0), [.tm 10]⟩, ⟨some 12, none, .po (.ext 1), [.tm 10]⟩, ⟨some 5, none, .mv, [.tm 11]⟩, ⟨some 6, none, .mv, [.tm 12]⟩] [5, 6]) .ret), [.tm 5, .tm 6]⟩
theorem of109 : Fn1.of Tryz.prog 109 ⟨false, [], false⟩ [[0, 1, 2], [5, 6]] = some F109 := by kernel_rfl
/-- spyglass/bound.Div(spyglass/api.Fix) -/
def F44 : Fn1 := ⟨37, .seq (.reg [⟨some 3, none, .box, [.tm 0]⟩, ⟨some 4, none, .box, [.tm 1]⟩, ⟨some 5, none, .box, [.tm 2]⟩, ⟨some 6, none, .alloc [.n .i64 0, .n .i64 0, .b false], []⟩] [3, 4, 5, 6]) (.seq (.seq (.reg [⟨some 7, none, .ld true 3 false, [.tm 3]⟩, ⟨some 8, none, .ld true 3 false, [.tm 4]⟩, ⟨some 9, none, .call 104, [.tm 7, .tm 8]⟩, ⟨some 10, none, .mv, [.tm 9]⟩, ⟨some 11, some (10, false), .ld false 1 false, [.tm 5]⟩, ⟨some 12, some (10, false), .po (.bin .lss), [.tm 11, .cn (.n .i64 1)]⟩, ⟨some 13, none, .pick, [.tm 10, .cn (.b true), .tm 12]⟩, ⟨some 14, none, .mv, [.tm 13]⟩, ⟨some 15, some (14, false), .fa 0, [.tm 4]⟩, ⟨some 16, some (14, false), .ld false 1 false, [.tm 15]⟩, ⟨some 17, some (14, false), .po (.bin .leq), [.tm 16, .cn (.n .i64 0)]⟩, ⟨some 18, some (14, false), .mv, [.tm 17]⟩, ⟨some 19, some (18, true), .fa 1, [.tm 4]⟩, ⟨some 20, some (18, true), .ld false 1 false, [.tm 19]⟩, ⟨some 21, some (18, true), .po (.bin .geq), [.tm 20, .cn (.n .i64 0)]⟩, ⟨some 22, some (14, false), .pick, [.tm 18, .tm 21, .cn (.b false)]⟩, ⟨some 23, none, .pick, [.tm 14, .cn (.b true), .tm 22]⟩] [3, 4, 5, 6, 23]) (.cond (.tm 23) (.seq (.reg [⟨some 24, none, .call 33, []⟩, ⟨none, none, .st 3, [.tm 6, .tm 24]⟩] [6]) .ret) .skip)) (.seq (.seq (.reg [⟨some 25, none, .fa 1, [.tm 4]⟩, ⟨some 26, none, .ld false 1 false, [.tm 25]⟩, ⟨some 27, none, .po (.bin .lss), [.tm 26, .cn (.n .i64 0)]⟩] [3, 4, 5, 6, 27]) (.cond (.tm 27) (.dreg [⟨some 28, none, .ld true 3 false, [.tm 3]⟩, ⟨some 29, none, .call 114, [.tm 28]⟩, ⟨some 30, none, .ld true 3 false, [.tm 4]⟩, ⟨some 31, none, .call 114, [.tm 30]⟩, ⟨none, none, .st 3, [.tm 3, .tm 29]⟩, ⟨none, none, .st 3, [.tm 4, .tm 31]⟩] [] [3, 4, 5, 6]) .skip)) (.seq (.reg [⟨some 32, none, .ld true 3 false, [.tm 3]⟩, ⟨some 33, none, .ld true 3 false, [.tm 4]⟩, ⟨some 34, none, .po (.mkF (.func 115) 0), [.tm 5]⟩, ⟨some 35, none, .po (.mkF (.func 116) 0), [.tm 5]⟩, ⟨some 36, none, .call 106, [.tm 32, .tm 33, .tm 34, .tm 35]⟩, ⟨none, none, .st 3, [.tm 6, .tm 36]⟩] [6]) .ret))), [.cell 6 true 3]⟩
theorem of44 : Fn1.of Tryz.prog 44 ⟨false, [], false⟩ [[3, 4, 5, 6], [3, 4, 5, 6, 23], [6], [3, 4, 5, 6, 27], [3, 4, 5, 6], [6]] = some F44 := by kernel_rfl
/-- spyglass/bound.Div(spyglass/api.Fix)$1 -/
def F115 : Fn1 := ⟨13, .seq (.reg [⟨some 5, none, .mv, [.cn (.n .i64 0)]⟩, ⟨some 6, none, .mv, [.cn (.n .i64 0)]⟩] [0, 1, 2]) (.seq (.reg [⟨some 7, none, .mv, [.tm 0]⟩, ⟨some 8, none, .ld false 1 false, [.tm 2]⟩, ⟨some 9, none, .mv, [.tm 1]⟩, ⟨some 10, none, .call 108, [.tm 7, .tm 8, .tm 9]⟩, ⟨some 11, none, .po (.ext 0), [.tm 10]⟩, ⟨some 12, none, .po (.ext 1), [.tm 10]⟩, ⟨some 5, none, .mv, [.tm 11]⟩, ⟨some 6, none, .mv, [.tm 12]⟩] [5, 6]) .ret), [.tm 5, .tm 6]⟩
theorem of115 : Fn1.of Tryz.prog 115 ⟨false, [], false⟩ [[0, 1, 2], [5, 6]] = some F115 := by kernel_rfl
/-- spyglass/bound.Div(spyglass/api.Fix)$2 -/
def F116 : Fn1 := ⟨13, .seq (.reg [⟨some 5, none, .mv, [.cn (.n .i64 0)]⟩, ⟨some 6, none, .mv, [.cn (.n .i64 0)]⟩] [0, 1, 2]) (.seq (.reg [⟨some 7, none, .mv, [.tm 0]⟩, ⟨some 8, none, .ld false 1 false, [.tm 2]⟩, ⟨some 9, none, .mv, [.tm 1]⟩, ⟨some 10, none, .call 110, [.tm 7, .tm 8, .tm 9]⟩, ⟨some 11, none, .po (.ext 0), [.tm 10]⟩, ⟨some 12, none, .po (.ext 1), [.tm 10]⟩, ⟨some 5, none, .mv, [.tm 11]⟩, ⟨some 6, none, .mv, [.tm 12]⟩] [5, 6]) .ret), [.tm 5, .tm 6]⟩
theorem of116 : Fn1.of Tryz.prog 116 ⟨false, [], false⟩ [[0, 1, 2], [5, 6]] = some F116 := by kernel_rfl
/-- spyglass/bound.Scale(spyglass/api.Fix) -/
def F38 : Fn1 := ⟨12, .seq (.reg [⟨some 3, none, .box, [.tm 0]⟩, ⟨some 6, none, .alloc [.n .i64 0, .n .i64 0, .b false], []⟩] [1, 2, 3, 6]) (.seq (.dreg [⟨some 7, none, .ld true 3 false, [.tm 3]⟩, ⟨some 8, none, .mv, [.tm 1]⟩, ⟨some 9, none, .call 43, [.tm 8]⟩, ⟨some 10, none, .mv, [.tm 2]⟩, ⟨some 11, none, .call 41, [.tm 7, .tm 9, .tm 10]⟩, ⟨none, none, .st 3, [.tm 6, .tm 11]⟩] [] [6]) .ret), [.cell 6 true 3]⟩
theorem of38 : Fn1.of Tryz.prog 38 ⟨false, [], false⟩ [[1, 2, 3, 6], [6]] = some F38 := by kernel_rfl
section
variable (v c : Int → Int → Int)
theorem corn1Fix {Q : Exit → St → Prop} (x y1 y2 : Int) (ub : Bool) (ix : Int) (rows : V) (e0 : List Int) (g1 g2 : Nat) (cap1 cap2 : List V) (h0 : e0.length ≤ 1000)
    (hc : ∀ y, y = y1 ∨ y = y2 → 1 ≤ c x y) (h1 : ∀ y, y = y1 ∨ y = y2 → Pure Tryz.prog g1 ([] ++ [.n .i64 x, .n .i64 y] ++ cap1) (.tup (quoT (c x y) (v x y / c x y)))) (h2 : ∀ y, y = y1 ∨ y = y2 → Pure Tryz.prog g2 ([] ++ [.n .i64 x, .n .i64 y] ++ cap2) (.tup (upT (c x y) (v x y))))
    (hX : ∀ b i e, (cellsC (fun y => cellD (c x y) (v x y)) [y1, y2]).map (e0 ++ ·) = some e → e.length ≤ e0.length + 4 → Q (.exit 2) ⟨[(2, .v (.clo (.func g1) [] cap1)), (3, .v (.clo (.func g2) [] cap2)), (5, .ref 5 0), (8, .ref 8 0), (9, .own 9 1 0 e.length), (11, .v (.n .i64 x)), (22, .v rows), (23, .v (.n .i64 2)), (24, .v (.n .i64 ix)), (32, .v (.sl 2 [.n .i64 y1, .n .i64 y2] true)), (33, .v (.n .i64 2)), (34, .v (.n .i64 i)), (35, .v (.b b))],
      [(9, e.flatMap ni), (8, [.n .i64 0, .n .i64 0, .b false]), (5, bdC y1 y2 ub)]⟩)
    (hR : cellsC (fun y => cellD (c x y) (v x y)) [y1, y2] = none → Q .ret ⟨[(8, .ref 8 0)], [(8, encC none)]⟩) :
    loopW Tryz.prog [2, 3, 5, 8, 9, 11, 22, 23, 24, 32, 33, 34] L106_0 Q ⟨[(2, .v (.clo (.func g1) [] cap1)), (3, .v (.clo (.func g2) [] cap2)), (5, .ref 5 0), (8, .ref 8 0), (9, .own 9 1 0 e0.length), (11, .v (.n .i64 x)), (22, .v rows), (23, .v (.n .i64 2)), (24, .v (.n .i64 ix)), (32, .v (.sl 2 [.n .i64 y1, .n .i64 y2] true)), (33, .v (.n .i64 2)), (34, .v (.n .i64 0))],
      [(9, e0.flatMap ni), (8, [.n .i64 0, .n .i64 0, .b false]), (5, bdC y1 y2 ub)]⟩ := by
  have hw : ∀ z : Int, 0 ≤ z ∧ z ≤ 100 → IntKind.i64.wrap (z + 1) = z + 1 := fun z hz => w64 (by omega)
  generalize hG : cellsC (fun y => cellD (c x y) (v x y)) [y1, y2] = G at *
  refine loop_ind2 (fun (e : List Int) (k : Int) => ⟨[(2, .v (.clo (.func g1) [] cap1)), (3, .v (.clo (.func g2) [] cap2)), (5, .ref 5 0), (8, .ref 8 0), (9, .own 9 1 0 e.length), (11, .v (.n .i64 x)), (22, .v rows), (23, .v (.n .i64 2)), (24, .v (.n .i64 ix)), (32, .v (.sl 2 [.n .i64 y1, .n .i64 y2] true)), (33, .v (.n .i64 2)), (34, .v (.n .i64 k))],
      [(9, e.flatMap ni), (8, [.n .i64 0, .n .i64 0, .b false]), (5, bdC y1 y2 ub)]⟩) (fun e k => 2 - k.toNat)
    (fun e k => 0 ≤ k ∧ k ≤ 2 ∧ e.length ≤ e0.length + 2 * k ∧ (cellsC (fun y => cellD (c x y) (v x y)) ([y1, y2].drop k.toNat)).map (e ++ ·) = G.map (e0 ++ ·)) e0 0 ⟨by decide, by decide, by omega, by simp [hG]⟩ ?_
  intro e k ⟨k0, k2, k3, k4⟩ ih
  refine DecK.dec (fun h => ?_) (fun h => ?_)
  · obtain ⟨y, hy, hyk, hyd⟩ : ∃ y, (y = y1 ∨ y = y2) ∧ [y1, y2][k.toNat]? = some y ∧ [y1, y2].drop k.toNat = y :: [y1, y2].drop (k.toNat + 1) := by
      rcases (show k = 0 ∨ k = 1 by omega) with rfl | rfl
      · exact ⟨y1, .inl rfl, rfl, rfl⟩
      · exact ⟨y2, .inr rfl, rfl, rfl⟩
    rw [hyd, cellsC] at k4
    have hcy := hc y hy
    refine OptK.mk _ (ria (n := 2) k.toNat (by omega) (by omega)) ?_
    refine OptK.mk _ (rld1 (g := fun x => .n .i64 x) (l := [y1, y2]) hyk) ?_
    have q1 := h1 y hy
    have q2 := h2 y hy
    unfold quoT at q1
    unfold upT at q2
    rw [if_neg (by omega)] at q1 q2
    by_cases f : fits (v x y / c x y) ∧ fits (cdiv (v x y) (c x y))
    · rw [if_pos f.1] at q1
      rw [if_pos f] at q2
      have hn : cellD (c x y) (v x y) = some [v x y / c x y, cdiv (v x y) (c x y)] := if_pos f
      rw [hn] at k4
      refine CallK.mk _ q1 rfl ?_
      refine CallK.mk _ q2 rfl ?_
      refine DecK.no rfl ?_
      refine DecK.no rfl ?_
      refine OptK.mk _ (own_apps (f := ni) (l' := [v x y / c x y, cdiv (v x y) (c x y)]) hz_ni rfl rfl (by simp only [List.length_cons, List.length_nil]; omega)) ?_
      refine loop_eq (by rw [hw k (by omega)]) (ih (e ++ [v x y / c x y, cdiv (v x y) (c x y)]) (k + 1) ⟨by omega, by omega, by simp only [List.length_append, List.length_cons, List.length_nil]; omega, ?_⟩ (by omega))
      rw [← k4, show (k + 1).toNat = k.toNat + 1 by omega]
      simp only [Option.map_map]
      congr 1
      funext z
      simp
    · have hn : cellD (c x y) (v x y) = none := if_neg f
      rw [hn] at k4
      have hGn : G = none := by cases G with
        | none => rfl
        | some g => simp at k4
      rw [if_neg f] at q2
      by_cases f1 : fits (v x y / c x y)
      · rw [if_pos f1] at q1
        refine CallK.mk _ q1 rfl ?_
        refine CallK.mk _ q2 rfl ?_
        refine DecK.no rfl ?_
        refine DecK.yes rfl ?_
        refine CallK.mk _ noneFix rfl ?_
        refine OptK.mk _ rfl ?_
        exact hR hGn
      · rw [if_neg f1] at q1
        refine CallK.mk _ q1 rfl ?_
        refine CallK.mk _ q2 rfl ?_
        refine DecK.yes rfl ?_
        repeat' first | (refine DecK.tt ?_) | (refine DecK.yes rfl ?_)
        refine CallK.mk _ noneFix rfl ?_
        refine OptK.mk _ rfl ?_
        exact hR hGn
  · obtain rfl : k = 2 := by omega
    refine hX _ _ e ?_ (by omega)
    rw [← k4]
    simp [cellsC]
/-- What the corners of two bounds give. -/
theorem cornersFix (a1 a2 : Int) (ua : Bool) (b1 b2 : Int) (ub : Bool) (g1 g2 : Nat) (cap1 cap2 : List V)
    (hc : ∀ x y, x = a1 ∨ x = a2 → y = b1 ∨ y = b2 → 1 ≤ c x y) (h1 : ∀ x y, x = a1 ∨ x = a2 → y = b1 ∨ y = b2 → Pure Tryz.prog g1 ([] ++ [.n .i64 x, .n .i64 y] ++ cap1) (.tup (quoT (c x y) (v x y / c x y))))
    (h2 : ∀ x y, x = a1 ∨ x = a2 → y = b1 ∨ y = b2 → Pure Tryz.prog g2 ([] ++ [.n .i64 x, .n .i64 y] ++ cap2) (.tup (upT (c x y) (v x y)))) :
    Pure Tryz.prog 106 [bdV a1 a2 ua, bdV b1 b2 ub, .clo (.func g1) [] cap1, .clo (.func g2) [] cap2] (encB (cornF v c a1 a2 b1 b2)) := by
  refine pure_of_wp of106 (Nat.le_of_ble_eq_true rfl) ?_
  have hw : ∀ z : Int, 0 ≤ z ∧ z ≤ 100 → IntKind.i64.wrap (z + 1) = z + 1 := fun z hz => w64 (by omega)
  unfold cornF
  generalize hG : cellsC (fun x => cellsC (fun y => cellD (c x y) (v x y)) [b1, b2]) [a1, a2] = G at *
  have sub : ∀ x, x = a1 ∨ x = a2 → cellsC (fun y => cellD (c x y) (v x y)) [b1, b2] = none → G = none := fun x hx hn => by
    rw [← hG]
    exact cellsC_none (x := x) (by rcases hx with rfl | rfl <;> simp) hn
  refine loop_ind2 (fun (e : List Int) (k : Int) => ⟨[(2, .v (.clo (.func g1) [] cap1)), (3, .v (.clo (.func g2) [] cap2)), (5, .ref 5 0), (8, .ref 8 0), (9, .own 9 1 0 e.length), (22, .v (.sl 2 [.n .i64 a1, .n .i64 a2] true)), (23, .v (.n .i64 2)), (24, .v (.n .i64 k))],
      [(9, e.flatMap ni), (8, [.n .i64 0, .n .i64 0, .b false]), (5, bdC b1 b2 ub)]⟩) (fun e k => 2 - k.toNat)
    (fun e k => 0 ≤ k ∧ k ≤ 2 ∧ e.length ≤ 4 * k ∧ (cellsC (fun x => cellsC (fun y => cellD (c x y) (v x y)) [b1, b2]) ([a1, a2].drop k.toNat)).map (e ++ ·) = G) [] 0 ⟨by decide, by decide, by simp, by simp [hG]⟩ ?_
  intro e k ⟨k0, k2, k3, k4⟩ ih
  refine DecK.dec (fun h => ?_) (fun h => ?_)
  · obtain ⟨x, hx, hxk, hxd⟩ : ∃ x, (x = a1 ∨ x = a2) ∧ [a1, a2][k.toNat]? = some x ∧ [a1, a2].drop k.toNat = x :: [a1, a2].drop (k.toNat + 1) := by
      rcases (show k = 0 ∨ k = 1 by omega) with rfl | rfl
      · exact ⟨a1, .inl rfl, rfl, rfl⟩
      · exact ⟨a2, .inr rfl, rfl, rfl⟩
    rw [hxd, cellsC] at k4
    refine OptK.mk _ (ria (n := 2) k.toNat (by omega) (by omega)) ?_
    refine OptK.mk _ (rld1 (g := fun x => .n .i64 x) (l := [a1, a2]) hxk) ?_
    refine corn1Fix v c x b1 b2 ub k _ e g1 g2 cap1 cap2 (by omega) (fun y hy => hc x y hx hy) (fun y hy => h1 x y hx hy) (fun y hy => h2 x y hx hy) (fun b i e' he hel => ?_) (fun hn => ?_)
    · refine loop_eq (by rw [hw k (by omega)]) (ih e' (k + 1) ⟨by omega, by omega, by omega, ?_⟩ (by omega))
      rw [show (k + 1).toNat = k.toNat + 1 by omega, ← k4]
      cases hC : cellsC (fun y => cellD (c x y) (v x y)) [b1, b2] with
      | none => rw [hC] at he; cases he
      | some z =>
        rw [hC] at he
        simp only [Option.map_some, Option.some.injEq] at he
        subst he
        simp only [Option.map_map]
        congr 1
        funext q
        simp
    · have := sub x hx hn
      rw [this]
      refine endV (by rfl) ?_
      rfl
  · obtain rfl : k = 2 := by omega
    have k4 : G = some e := by rw [← k4]; simp [cellsC]
    have hlen : 1 ≤ e.length := by
      rw [← hG] at k4
      simp only [cellsC] at k4
      split at k4
      · cases k4
      · rename_i a ha
        split at ha
        · cases ha
        · rename_i a' ha'
          simp only [Option.map_eq_some_iff] at k4 ha
          obtain ⟨z, _, rfl⟩ := k4
          obtain ⟨z', _, rfl⟩ := ha
          unfold cellD at ha'
          split at ha' <;> cases ha'
          simp
    rw [k4]
    rcases e with _ | ⟨x, q⟩
    · simp at hlen
    simp only [List.length_cons] at k3
    have hsn : V.sl (x :: q).length ((((x :: q)).flatMap ni).drop 0 |>.take ((x :: q).length * 1)) false = .sl (x :: q).length ((x :: q).flatMap ni) false := by rw [snapRow hz_ni]
    refine CallK.mk _ ((minSFix x q false (by omega)).args (by rw [← hsn])) rfl ?_
    refine CallK.mk _ ((maxSFix x q false (by omega)).args (by rw [← hsn])) rfl ?_
    refine CallK.mk _ (ofFix _ _) rfl ?_
    ((repeat' first | refine DecK.tt ?_ | refine DecK.ff ?_ | refine DecK.beq (fun _ => ?_) (fun _ => ?_) | refine DecK.bne (fun _ => ?_) (fun _ => ?_) | refine DecK.dec (fun _ => ?_) (fun _ => ?_) | refine OptK.mk _ rfl ?_ | refine endV (by rfl) ?_) <;> (try with_reducible rfl))
    rfl
end
end Go.Proofs.YtciigfeecmnghaaRRRRGreatRR.Sv

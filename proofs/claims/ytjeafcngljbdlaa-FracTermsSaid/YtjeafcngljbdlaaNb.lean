/- Division of 128 bits by 64: math/bits.Len64, LeadingZeros64, Div64. No condition. -/
import Derived.Test.YtjeafcngljbdlaaNa
namespace Go.Proofs.Ytjeafcngljbdlaa.Sv
open Go Go.RowKit
set_option linter.unusedVariables false
set_option linter.unusedSimpArgs false
set_option maxRecDepth 100000
/-- math/bits.Len64 -/
def F87 : Fn1 := ⟨25, .seq (.reg [⟨some 2, none, .mv, [.cn (.n .i64 0)]⟩] [0, 2]) (.seq (.seq (.reg [⟨some 3, none, .mv, [.tm 0]⟩, ⟨some 4, none, .po (.bin .geq), [.tm 3, .cn (.n .u64 4294967296)]⟩] [0, 2, 4]) (.cond (.tm 4) (.seq (.reg [⟨some 5, none, .mv, [.tm 0]⟩, ⟨some 6, none, .po (.bin .shr), [.tm 5, .cn (.n .u64 32)]⟩, ⟨some 0, none, .mv, [.tm 6]⟩] [0]) (.reg [⟨some 2, none, .mv, [.cn (.n .i64 32)]⟩] [0, 2])) .skip)) (.seq (.seq (.reg [⟨some 7, none, .mv, [.tm 0]⟩, ⟨some 8, none, .po (.bin .geq), [.tm 7, .cn (.n .u64 65536)]⟩] [0, 2, 8]) (.cond (.tm 8) (.seq (.reg [⟨some 9, none, .mv, [.tm 0]⟩, ⟨some 10, none, .po (.bin .shr), [.tm 9, .cn (.n .u64 16)]⟩, ⟨some 0, none, .mv, [.tm 10]⟩] [0, 2]) (.reg [⟨some 11, none, .mv, [.tm 2]⟩, ⟨some 12, none, .po (.bin .add), [.tm 11, .cn (.n .i64 16)]⟩, ⟨some 2, none, .mv, [.tm 12]⟩] [0, 2])) .skip)) (.seq (.seq (.reg [⟨some 13, none, .mv, [.tm 0]⟩, ⟨some 14, none, .po (.bin .geq), [.tm 13, .cn (.n .u64 256)]⟩] [0, 2, 14]) (.cond (.tm 14) (.seq (.reg [⟨some 15, none, .mv, [.tm 0]⟩, ⟨some 16, none, .po (.bin .shr), [.tm 15, .cn (.n .u64 8)]⟩, ⟨some 0, none, .mv, [.tm 16]⟩] [0, 2]) (.reg [⟨some 17, none, .mv, [.tm 2]⟩, ⟨some 18, none, .po (.bin .add), [.tm 17, .cn (.n .i64 8)]⟩, ⟨some 2, none, .mv, [.tm 18]⟩] [0, 2])) .skip)) (.seq (.reg [⟨some 19, none, .mv, [.tm 2]⟩, ⟨some 20, none, .mv, [.tm 0]⟩, ⟨some 21, none, .po (.toInt .u8), [.tm 20]⟩, ⟨some 22, none, .po .idxS, [.cn (.s (⟨⟨[0, 1, 2, 2, 3, 3, 3, 3, 4, 4, 4, 4, 4, 4, 4, 4, 5, 5, 5, 5, 5, 5, 5, 5, 5, 5, 5, 5, 5, 5, 5, 5, 6, 6, 6, 6, 6, 6, 6, 6, 6, 6, 6, 6, 6, 6, 6, 6, 6, 6, 6, 6, 6, 6, 6, 6, 6, 6, 6, 6, 6, 6, 6, 6, 7, 7, 7, 7, 7, 7, 7, 7, 7, 7, 7, 7, 7, 7, 7, 7, 7, 7, 7, 7, 7, 7, 7, 7, 7, 7, 7, 7, 7, 7, 7, 7, 7, 7, 7, 7, 7, 7, 7, 7, 7, 7, 7, 7, 7, 7, 7, 7, 7, 7, 7, 7, 7, 7, 7, 7, 7, 7, 7, 7, 7, 7, 7, 7, 8, 8, 8, 8, 8, 8, 8, 8, 8, 8, 8, 8, 8, 8, 8, 8, 8, 8, 8, 8, 8, 8, 8, 8, 8, 8, 8, 8, 8, 8, 8, 8, 8, 8, 8, 8, 8, 8, 8, 8, 8, 8, 8, 8, 8, 8, 8, 8, 8, 8, 8, 8, 8, 8, 8, 8, 8, 8, 8, 8, 8, 8, 8, 8, 8, 8, 8, 8, 8, 8, 8, 8, 8, 8, 8, 8, 8, 8, 8, 8, 8, 8, 8, 8, 8, 8, 8, 8, 8, 8, 8, 8, 8, 8, 8, 8, 8, 8, 8, 8, 8, 8, 8, 8, 8, 8, 8, 8, 8, 8, 8, 8, 8, 8, 8, 8, 8, 8, 8, 8, 8, 8, 8, 8, 8, 8, 8, 8]⟩⟩ : ByteArray)), .tm 21]⟩, ⟨some 23, none, .po (.toInt .i64), [.tm 22]⟩, ⟨some 24, none, .po (.bin .add), [.tm 19, .tm 23]⟩, ⟨some 2, none, .mv, [.tm 24]⟩] [2]) .ret)))), [.tm 2]⟩
theorem of87 : Fn1.of Try.prog 87 ⟨false, [], false⟩ [[0, 2], [0, 2, 4], [0], [0, 2], [0, 2, 8], [0, 2], [0, 2], [0, 2, 14], [0, 2], [0, 2], [2]] = some F87 := by kernel_rfl
/-- math/bits.LeadingZeros64 -/
def F84 : Fn1 := ⟨6, .seq (.reg [⟨some 2, none, .mv, [.cn (.n .i64 0)]⟩] [0]) (.seq (.reg [⟨some 3, none, .mv, [.tm 0]⟩, ⟨some 4, none, .call 87, [.tm 3]⟩, ⟨some 5, none, .po (.bin .sub), [.cn (.n .i64 64), .tm 4]⟩, ⟨some 2, none, .mv, [.tm 5]⟩] [2]) .ret), [.tm 2]⟩
theorem of84 : Fn1.of Try.prog 84 ⟨false, [], false⟩ [[0], [2]] = some F84 := by kernel_rfl
/-- live: [2, 8, 9, 10, 14, 15, 16, 17, 18] -/
def L80_0 : SC := .seq (.seq (.reg [⟨some 102, none, .mv, [.tm 18]⟩, ⟨some 103, none, .po (.bin .geq), [.tm 102, .cn (.n .u64 4294967296)]⟩, ⟨some 104, none, .mv, [.tm 103]⟩, ⟨some 105, some (104, false), .mv, [.tm 18]⟩, ⟨some 106, some (104, false), .mv, [.tm 10]⟩, ⟨some 107, some (104, false), .po (.bin .mul), [.tm 105, .tm 106]⟩, ⟨some 108, some (104, false), .mv, [.tm 16]⟩, ⟨some 109, some (104, false), .po (.bin .mul), [.cn (.n .u64 4294967296), .tm 108]⟩, ⟨some 110, some (104, false), .mv, [.tm 14]⟩, ⟨some 111, some (104, false), .po (.bin .add), [.tm 109, .tm 110]⟩, ⟨some 112, some (104, false), .po (.bin .gtr), [.tm 107, .tm 111]⟩, ⟨some 113, none, .pick, [.tm 104, .cn (.b true), .tm 112]⟩] [2, 8, 9, 10, 14, 15, 16, 17, 18, 113]) (.cond (.tm 113) .skip (.exit 2))) (.block 3 (.seq (.reg [⟨some 114, none, .mv, [.tm 18]⟩, ⟨some 115, none, .po (.bin .sub), [.tm 114, .cn (.n .u64 1)]⟩, ⟨some 18, none, .mv, [.tm 115]⟩] [2, 8, 9, 10, 14, 15, 16, 17, 18]) (.seq (.reg [⟨some 116, none, .mv, [.tm 16]⟩, ⟨some 117, none, .mv, [.tm 9]⟩, ⟨some 118, none, .po (.bin .add), [.tm 116, .tm 117]⟩, ⟨some 16, none, .mv, [.tm 118]⟩] [2, 8, 9, 10, 14, 15, 16, 17, 18]) (.seq (.reg [⟨some 119, none, .mv, [.tm 16]⟩, ⟨some 120, none, .po (.bin .geq), [.tm 119, .cn (.n .u64 4294967296)]⟩] [2, 8, 9, 10, 14, 15, 16, 17, 18, 120]) (.cond (.tm 120) (.exit 2) .skip)))))
/-- live: [2, 8, 9, 10, 11, 13, 14, 15, 16] -/
def L80_1 : SC := .seq (.seq (.reg [⟨some 67, none, .mv, [.tm 15]⟩, ⟨some 68, none, .po (.bin .geq), [.tm 67, .cn (.n .u64 4294967296)]⟩, ⟨some 69, none, .mv, [.tm 68]⟩, ⟨some 70, some (69, false), .mv, [.tm 15]⟩, ⟨some 71, some (69, false), .mv, [.tm 10]⟩, ⟨some 72, some (69, false), .po (.bin .mul), [.tm 70, .tm 71]⟩, ⟨some 73, some (69, false), .mv, [.tm 16]⟩, ⟨some 74, some (69, false), .po (.bin .mul), [.cn (.n .u64 4294967296), .tm 73]⟩, ⟨some 75, some (69, false), .mv, [.tm 13]⟩, ⟨some 76, some (69, false), .po (.bin .add), [.tm 74, .tm 75]⟩, ⟨some 77, some (69, false), .po (.bin .gtr), [.tm 72, .tm 76]⟩, ⟨some 78, none, .pick, [.tm 69, .cn (.b true), .tm 77]⟩] [2, 8, 9, 10, 11, 13, 14, 15, 16, 78]) (.cond (.tm 78) .skip (.exit 0))) (.block 1 (.seq (.reg [⟨some 79, none, .mv, [.tm 15]⟩, ⟨some 80, none, .po (.bin .sub), [.tm 79, .cn (.n .u64 1)]⟩, ⟨some 15, none, .mv, [.tm 80]⟩] [2, 8, 9, 10, 11, 13, 14, 15, 16]) (.seq (.reg [⟨some 81, none, .mv, [.tm 16]⟩, ⟨some 82, none, .mv, [.tm 9]⟩, ⟨some 83, none, .po (.bin .add), [.tm 81, .tm 82]⟩, ⟨some 16, none, .mv, [.tm 83]⟩] [2, 8, 9, 10, 11, 13, 14, 15, 16]) (.seq (.reg [⟨some 84, none, .mv, [.tm 16]⟩, ⟨some 85, none, .po (.bin .geq), [.tm 84, .cn (.n .u64 4294967296)]⟩] [2, 8, 9, 10, 11, 13, 14, 15, 16, 85]) (.cond (.tm 85) (.exit 0) .skip)))))
/-- math/bits.Div64 -/
def F80 : Fn1 := ⟨135, .seq (.reg [⟨some 6, none, .mv, [.cn (.n .u64 0)]⟩, ⟨some 7, none, .mv, [.cn (.n .u64 0)]⟩] [0, 1, 2]) (.seq (.seq (.reg [⟨some 19, none, .mv, [.tm 2]⟩, ⟨some 20, none, .po (.bin .eql), [.tm 19, .cn (.n .u64 0)]⟩] [0, 1, 2, 20]) (.cond (.tm 20) (.reg [⟨some 21, none, .bad, []⟩, ⟨none, none, .bad, []⟩] [0, 1, 2]) .skip)) (.seq (.seq (.reg [⟨some 22, none, .mv, [.tm 2]⟩, ⟨some 23, none, .mv, [.tm 0]⟩, ⟨some 24, none, .po (.bin .leq), [.tm 22, .tm 23]⟩] [0, 1, 2, 24]) (.cond (.tm 24) (.reg [⟨some 25, none, .bad, []⟩, ⟨none, none, .bad, []⟩] [0, 1, 2]) .skip)) (.seq (.seq (.reg [⟨some 26, none, .mv, [.tm 0]⟩, ⟨some 27, none, .po (.bin .eql), [.tm 26, .cn (.n .u64 0)]⟩] [0, 1, 2, 27]) (.cond (.tm 27) (.seq (.dreg [⟨some 28, none, .mv, [.tm 1]⟩, ⟨some 29, none, .mv, [.tm 2]⟩, ⟨some 30, none, .po (.bin .quo), [.tm 28, .tm 29]⟩, ⟨some 31, none, .mv, [.tm 1]⟩, ⟨some 32, none, .mv, [.tm 2]⟩, ⟨some 33, none, .po (.bin .rem), [.tm 31, .tm 32]⟩, ⟨some 6, none, .mv, [.tm 30]⟩, ⟨some 7, none, .mv, [.tm 33]⟩] [] [6, 7]) .ret) .skip)) (.seq (.reg [⟨some 34, none, .mv, [.tm 2]⟩, ⟨some 35, none, .call 84, [.tm 34]⟩, ⟨some 36, none, .po (.toInt .u64), [.tm 35]⟩, ⟨some 8, none, .mv, [.tm 36]⟩] [0, 1, 2, 8]) (.seq (.reg [⟨some 37, none, .mv, [.tm 2]⟩, ⟨some 38, none, .mv, [.tm 8]⟩, ⟨some 39, none, .po (.bin .shl), [.tm 37, .tm 38]⟩, ⟨some 2, none, .mv, [.tm 39]⟩] [0, 1, 2, 8]) (.seq (.reg [⟨some 40, none, .mv, [.tm 2]⟩, ⟨some 41, none, .po (.bin .shr), [.tm 40, .cn (.n .u64 32)]⟩, ⟨some 9, none, .mv, [.tm 41]⟩] [0, 1, 2, 8, 9]) (.seq (.reg [⟨some 42, none, .mv, [.tm 2]⟩, ⟨some 43, none, .po (.bin .and), [.tm 42, .cn (.n .u64 4294967295)]⟩, ⟨some 10, none, .mv, [.tm 43]⟩] [0, 1, 2, 8, 9, 10]) (.seq (.reg [⟨some 44, none, .mv, [.tm 0]⟩, ⟨some 45, none, .mv, [.tm 8]⟩, ⟨some 46, none, .po (.bin .shl), [.tm 44, .tm 45]⟩, ⟨some 47, none, .mv, [.tm 1]⟩, ⟨some 48, none, .mv, [.tm 8]⟩, ⟨some 49, none, .po (.bin .sub), [.cn (.n .u64 64), .tm 48]⟩, ⟨some 50, none, .po (.bin .shr), [.tm 47, .tm 49]⟩, ⟨some 51, none, .po (.bin .or), [.tm 46, .tm 50]⟩, ⟨some 11, none, .mv, [.tm 51]⟩] [1, 2, 8, 9, 10, 11]) (.seq (.reg [⟨some 52, none, .mv, [.tm 1]⟩, ⟨some 53, none, .mv, [.tm 8]⟩, ⟨some 54, none, .po (.bin .shl), [.tm 52, .tm 53]⟩, ⟨some 12, none, .mv, [.tm 54]⟩] [2, 8, 9, 10, 11, 12]) (.seq (.reg [⟨some 55, none, .mv, [.tm 12]⟩, ⟨some 56, none, .po (.bin .shr), [.tm 55, .cn (.n .u64 32)]⟩, ⟨some 13, none, .mv, [.tm 56]⟩] [2, 8, 9, 10, 11, 12, 13]) (.seq (.reg [⟨some 57, none, .mv, [.tm 12]⟩, ⟨some 58, none, .po (.bin .and), [.tm 57, .cn (.n .u64 4294967295)]⟩, ⟨some 14, none, .mv, [.tm 58]⟩] [2, 8, 9, 10, 11, 13, 14]) (.seq (.reg [⟨some 59, none, .mv, [.tm 11]⟩, ⟨some 60, none, .mv, [.tm 9]⟩, ⟨some 61, none, .po (.bin .quo), [.tm 59, .tm 60]⟩, ⟨some 15, none, .mv, [.tm 61]⟩] [2, 8, 9, 10, 11, 13, 14, 15]) (.seq (.reg [⟨some 62, none, .mv, [.tm 11]⟩, ⟨some 63, none, .mv, [.tm 15]⟩, ⟨some 64, none, .mv, [.tm 9]⟩, ⟨some 65, none, .po (.bin .mul), [.tm 63, .tm 64]⟩, ⟨some 66, none, .po (.bin .sub), [.tm 62, .tm 65]⟩, ⟨some 16, none, .mv, [.tm 66]⟩] [2, 8, 9, 10, 11, 13, 14, 15, 16]) (.seq (.block 0 (.loop [2, 8, 9, 10, 11, 13, 14, 15, 16] L80_1)) (.seq (.reg [⟨some 86, none, .mv, [.tm 11]⟩, ⟨some 87, none, .po (.bin .mul), [.tm 86, .cn (.n .u64 4294967296)]⟩, ⟨some 88, none, .mv, [.tm 13]⟩, ⟨some 89, none, .po (.bin .add), [.tm 87, .tm 88]⟩, ⟨some 90, none, .mv, [.tm 15]⟩, ⟨some 91, none, .mv, [.tm 2]⟩, ⟨some 92, none, .po (.bin .mul), [.tm 90, .tm 91]⟩, ⟨some 93, none, .po (.bin .sub), [.tm 89, .tm 92]⟩, ⟨some 17, none, .mv, [.tm 93]⟩] [2, 8, 9, 10, 14, 15, 17]) (.seq (.reg [⟨some 94, none, .mv, [.tm 17]⟩, ⟨some 95, none, .mv, [.tm 9]⟩, ⟨some 96, none, .po (.bin .quo), [.tm 94, .tm 95]⟩, ⟨some 18, none, .mv, [.tm 96]⟩] [2, 8, 9, 10, 14, 15, 17, 18]) (.seq (.reg [⟨some 97, none, .mv, [.tm 17]⟩, ⟨some 98, none, .mv, [.tm 18]⟩, ⟨some 99, none, .mv, [.tm 9]⟩, ⟨some 100, none, .po (.bin .mul), [.tm 98, .tm 99]⟩, ⟨some 101, none, .po (.bin .sub), [.tm 97, .tm 100]⟩, ⟨some 16, none, .mv, [.tm 101]⟩] [2, 8, 9, 10, 14, 15, 16, 17, 18]) (.seq (.block 2 (.loop [2, 8, 9, 10, 14, 15, 16, 17, 18] L80_0)) (.seq (.reg [⟨some 121, none, .mv, [.tm 15]⟩, ⟨some 122, none, .po (.bin .mul), [.tm 121, .cn (.n .u64 4294967296)]⟩, ⟨some 123, none, .mv, [.tm 18]⟩, ⟨some 124, none, .po (.bin .add), [.tm 122, .tm 123]⟩, ⟨some 125, none, .mv, [.tm 17]⟩, ⟨some 126, none, .po (.bin .mul), [.tm 125, .cn (.n .u64 4294967296)]⟩, ⟨some 127, none, .mv, [.tm 14]⟩, ⟨some 128, none, .po (.bin .add), [.tm 126, .tm 127]⟩, ⟨some 129, none, .mv, [.tm 18]⟩, ⟨some 130, none, .mv, [.tm 2]⟩, ⟨some 131, none, .po (.bin .mul), [.tm 129, .tm 130]⟩, ⟨some 132, none, .po (.bin .sub), [.tm 128, .tm 131]⟩, ⟨some 133, none, .mv, [.tm 8]⟩, ⟨some 134, none, .po (.bin .shr), [.tm 132, .tm 133]⟩, ⟨some 6, none, .mv, [.tm 124]⟩, ⟨some 7, none, .mv, [.tm 134]⟩] [6, 7]) .ret))))))))))))))))))), [.tm 6, .tm 7]⟩
theorem of80 : Fn1.of Try.prog 80 ⟨false, [], false⟩ [[0, 1, 2], [0, 1, 2, 20], [0, 1, 2], [0, 1, 2, 24], [0, 1, 2], [0, 1, 2, 27], [6, 7], [0, 1, 2, 8], [0, 1, 2, 8], [0, 1, 2, 8, 9], [0, 1, 2, 8, 9, 10], [1, 2, 8, 9, 10, 11], [2, 8, 9, 10, 11, 12], [2, 8, 9, 10, 11, 12, 13], [2, 8, 9, 10, 11, 13, 14], [2, 8, 9, 10, 11, 13, 14, 15], [2, 8, 9, 10, 11, 13, 14, 15, 16], [2, 8, 9, 10, 11, 13, 14, 15, 16], [2, 8, 9, 10, 11, 13, 14, 15, 16, 78], [2, 8, 9, 10, 11, 13, 14, 15, 16], [2, 8, 9, 10, 11, 13, 14, 15, 16], [2, 8, 9, 10, 11, 13, 14, 15, 16, 85], [2, 8, 9, 10, 14, 15, 17], [2, 8, 9, 10, 14, 15, 17, 18], [2, 8, 9, 10, 14, 15, 16, 17, 18], [2, 8, 9, 10, 14, 15, 16, 17, 18], [2, 8, 9, 10, 14, 15, 16, 17, 18, 113], [2, 8, 9, 10, 14, 15, 16, 17, 18], [2, 8, 9, 10, 14, 15, 16, 17, 18], [2, 8, 9, 10, 14, 15, 16, 17, 18, 120], [6, 7]] = some F80 := by kernel_rfl
/-- How many bits a number has. -/
def blen (n : Nat) : Nat := if n = 0 then 0 else n.log2 + 1
theorem blen_spec (n : Nat) : n < 2 ^ blen n ∧ (n ≠ 0 → 2 ^ (blen n - 1) ≤ n ∧ 1 ≤ blen n) := by
  unfold blen
  split
  · rename_i h; subst h; simp
  · rename_i h
    refine ⟨?_, fun _ => ⟨?_, by omega⟩⟩
    · exact (Nat.log2_lt h).1 (by omega)
    · rw [Nat.add_sub_cancel]; exact Nat.log2_self_le h
theorem blen_unique {n L : Nat} (h : n < 2 ^ L) (h0 : n ≠ 0) (h' : 2 ^ (L - 1) ≤ n) : blen n = L := by
  obtain ⟨h1, h2⟩ := blen_spec n
  obtain ⟨h2, h3⟩ := h2 h0
  have a1 : blen n - 1 < L := (Nat.pow_lt_pow_iff_right (show 1 < 2 by decide)).1 (Nat.lt_of_le_of_lt h2 h)
  have a2 : L - 1 < blen n := (Nat.pow_lt_pow_iff_right (show 1 < 2 by decide)).1 (Nat.lt_of_le_of_lt h' h1)
  omega
theorem blen_shift {n k : Nat} (h : 2 ^ k ≤ n) : blen n = blen (n / 2 ^ k) + k := by
  have hp : 0 < 2 ^ k := Nat.pow_pos (by decide)
  have h0 : n / 2 ^ k ≠ 0 := by
    have := (Nat.le_div_iff_mul_le hp).2 (show 1 * 2 ^ k ≤ n by omega)
    omega
  obtain ⟨h1, h2⟩ := blen_spec (n / 2 ^ k)
  obtain ⟨h2, h3⟩ := h2 h0
  refine blen_unique ?_ (by omega) ?_
  · rw [Nat.pow_add]
    exact (Nat.div_lt_iff_lt_mul hp).1 h1
  · rw [show blen (n / 2 ^ k) + k - 1 = (blen (n / 2 ^ k) - 1) + k by omega, Nat.pow_add]
    exact (Nat.le_div_iff_mul_le hp).1 h2
def len8 : ByteArray := (⟨⟨[0, 1, 2, 2, 3, 3, 3, 3, 4, 4, 4, 4, 4, 4, 4, 4, 5, 5, 5, 5, 5, 5, 5, 5, 5, 5, 5, 5, 5, 5, 5, 5, 6, 6, 6, 6, 6, 6, 6, 6, 6, 6, 6, 6, 6, 6, 6, 6, 6, 6, 6, 6, 6, 6, 6, 6, 6, 6, 6, 6, 6, 6, 6, 6, 7, 7, 7, 7, 7, 7, 7, 7, 7, 7, 7, 7, 7, 7, 7, 7, 7, 7, 7, 7, 7, 7, 7, 7, 7, 7, 7, 7, 7, 7, 7, 7, 7, 7, 7, 7, 7, 7, 7, 7, 7, 7, 7, 7, 7, 7, 7, 7, 7, 7, 7, 7, 7, 7, 7, 7, 7, 7, 7, 7, 7, 7, 7, 7, 8, 8, 8, 8, 8, 8, 8, 8, 8, 8, 8, 8, 8, 8, 8, 8, 8, 8, 8, 8, 8, 8, 8, 8, 8, 8, 8, 8, 8, 8, 8, 8, 8, 8, 8, 8, 8, 8, 8, 8, 8, 8, 8, 8, 8, 8, 8, 8, 8, 8, 8, 8, 8, 8, 8, 8, 8, 8, 8, 8, 8, 8, 8, 8, 8, 8, 8, 8, 8, 8, 8, 8, 8, 8, 8, 8, 8, 8, 8, 8, 8, 8, 8, 8, 8, 8, 8, 8, 8, 8, 8, 8, 8, 8, 8, 8, 8, 8, 8, 8, 8, 8, 8, 8, 8, 8, 8, 8, 8, 8, 8, 8, 8, 8, 8, 8, 8, 8, 8, 8, 8, 8, 8, 8, 8, 8, 8, 8]⟩⟩ : ByteArray)
theorem len8_ok : ∀ i : Fin 256, len8[i.val]?.map (fun b => b.toNat) = some (blen i.val) := by decide +kernel
theorem idx8 {objs : List (Nat × List V)} {y : Int} (h : 0 ≤ y ∧ y < 256) : (SO.po .idxS).rdx objs [.v (.s len8), .v (.n .u8 y)] = some (.v (.n .u8 (blen y.toNat))) := by
  have := len8_ok ⟨y.toNat, by omega⟩
  simp only [Option.map_eq_some_iff] at this
  obtain ⟨b, h1, h2⟩ := this
  simp only [SO.rdx, SO.rd, allV, Option.map_some, Option.bind_some, PO.run, idxSV, h.1, if_true, h1, h2]
theorem Len64_ok (x : Nat) (hx : x < 18446744073709551616) : Pure Try.prog 87 [.n .u64 x] (.n .i64 (blen x)) := by
  refine pure_of_wp of87 (Nat.le_of_ble_eq_true rfl) ?_
  have s32 : ∀ z : Int, z.fdiv (2 ^ min (Int.toNat 32) IntKind.u64.bits) = z / 4294967296 := fun z => Int.fdiv_eq_ediv_of_nonneg z (by decide)
  have s16 : ∀ z : Int, z.fdiv (2 ^ min (Int.toNat 16) IntKind.u64.bits) = z / 65536 := fun z => Int.fdiv_eq_ediv_of_nonneg z (by decide)
  have s8 : ∀ z : Int, z.fdiv (2 ^ min (Int.toNat 8) IntKind.u64.bits) = z / 256 := fun z => Int.fdiv_eq_ediv_of_nonneg z (by decide)
  have k32 : ∀ n : Nat, 4294967296 ≤ n → blen n = blen (n / 4294967296) + 32 := fun n h => blen_shift (k := 32) h
  have k16 : ∀ n : Nat, 65536 ≤ n → blen n = blen (n / 65536) + 16 := fun n h => blen_shift (k := 16) h
  have k8 : ∀ n : Nat, 256 ≤ n → blen n = blen (n / 256) + 8 := fun n h => blen_shift (k := 8) h
  have bb : ∀ n : Nat, n < 256 → blen n ≤ 8 := fun n h => by
    have := blen_spec n
    by_cases h0 : n = 0
    · subst h0; decide
    · have h2 := (this.2 h0).1
      have : blen n - 1 < 8 := (Nat.pow_lt_pow_iff_right (show 1 < 2 by decide)).1 (Nat.lt_of_le_of_lt h2 h)
      omega
  have fin : ∀ (z c' : Int) (c n : Nat), z = n → n < 256 → c' = c → c ≤ 56 → blen x = blen n + c → V.n .i64 (IntKind.i64.wrap (c' + IntKind.i64.wrap (blen (IntKind.u8.wrap z).toNat))) = V.n .i64 (blen x) := fun z c' c n h1 h2 h3 h4 h5 => by
    have h6 := bb n h2
    rw [h1, h3, wu8 (by omega), Int.toNat_natCast, h5]
    congr 1
    simp (discharger := omega) only [w64, wu64, wu8, w32, wu32, tdivC, tmodC]
    omega
  repeat' first
    | refine DecK.tt ?_ | refine DecK.ff ?_ | refine DecK.beq (fun _ => ?_) (fun _ => ?_) | refine DecK.bne (fun _ => ?_) (fun _ => ?_) | refine DecK.dec (fun _ => ?_) (fun _ => ?_) | refine OptK.mk _ rfl ?_ | refine endV (by rfl) ?_
    | (refine OptK.mk _ (idx8 (by
        simp only [s32, s16, s8] at *
        rw [wu8 (by omega)]; omega)) ?_)
  all_goals simp only [s32, s16, s8] at *
  · have a := k32 x (by omega)
    have b := k16 (x / 4294967296) (by omega)
    have c := k8 (x / 4294967296 / 65536) (by omega)
    exact fin _ _ 56 (x / 4294967296 / 65536 / 256) (by omega) (by omega) (by decide) (by omega) (by omega)
  · have a := k32 x (by omega)
    have b := k16 (x / 4294967296) (by omega)
    exact fin _ _ 48 (x / 4294967296 / 65536) (by omega) (by omega) (by decide) (by omega) (by omega)
  · have a := k32 x (by omega)
    have c := k8 (x / 4294967296) (by omega)
    exact fin _ _ 40 (x / 4294967296 / 256) (by omega) (by omega) (by decide) (by omega) (by omega)
  · have a := k32 x (by omega)
    exact fin _ _ 32 (x / 4294967296) (by omega) (by omega) (by decide) (by omega) (by omega)
  · have b := k16 x (by omega)
    have c := k8 (x / 65536) (by omega)
    exact fin _ _ 24 (x / 65536 / 256) (by omega) (by omega) (by decide) (by omega) (by omega)
  · have b := k16 x (by omega)
    exact fin _ _ 16 (x / 65536) (by omega) (by omega) (by decide) (by omega) (by omega)
  · have c := k8 x (by omega)
    exact fin _ _ 8 (x / 256) (by omega) (by omega) (by decide) (by omega) (by omega)
  · exact fin _ _ 0 x (by omega) (by omega) rfl (by omega) (by omega)
theorem Lead64_ok (x : Nat) (hx : x < 18446744073709551616) : Pure Try.prog 84 [.n .u64 x] (.n .i64 ((64 - blen x : Nat) : Int)) := by
  refine pure_of_wp of84 (Nat.le_of_ble_eq_true rfl) ?_
  refine CallK.mk _ (Len64_ok x hx) rfl ?_
  have hb : blen x ≤ 64 := by
    by_cases h0 : x = 0
    · subst h0; decide
    · have h2 := ((blen_spec x).2 h0).1
      have : blen x - 1 < 64 := (Nat.pow_lt_pow_iff_right (show 1 < 2 by decide)).1 (Nat.lt_of_le_of_lt h2 hx)
      omega
  ((repeat' first | refine DecK.tt ?_ | refine DecK.ff ?_ | refine DecK.beq (fun _ => ?_) (fun _ => ?_) | refine DecK.bne (fun _ => ?_) (fun _ => ?_) | refine DecK.dec (fun _ => ?_) (fun _ => ?_) | refine OptK.mk _ rfl ?_ | refine endV (by rfl) ?_) <;> (try with_reducible rfl))
  congr 1
  simp (discharger := omega) only [w64, wu64, wu8, w32, wu32, tdivC, tmodC]
  omega
/-! ### One digit of the quotient (base 2^32) -/
theorem digit_stop {v1 v0 u d q rh : Int} (hv1 : 0 < v1) (hv0 : 0 ≤ v0) (hq : q * v1 + rh = u) (hQ : (u * 4294967296 + d) / (v1 * 4294967296 + v0) ≤ q) (h : q * v0 ≤ 4294967296 * rh + d) :
    q = (u * 4294967296 + d) / (v1 * 4294967296 + v0) := by
  have : q ≤ (u * 4294967296 + d) / (v1 * 4294967296 + v0) := by
    refine (Int.le_ediv_iff_mul_le (by omega)).2 ?_
    have e : q * (v1 * 4294967296 + v0) = q * v1 * 4294967296 + q * v0 := by grind
    rw [e]
    generalize q * v1 = p at *
    omega
  omega
theorem digit_go {v1 v0 u d q rh : Int} (hv1 : 0 < v1) (hv0 : 0 ≤ v0) (hq : q * v1 + rh = u) (hu : u < v1 * 4294967296 + v0) (hd : d < 4294967296) (h : q ≥ 4294967296 ∨ 4294967296 * rh + d < q * v0) :
    (u * 4294967296 + d) / (v1 * 4294967296 + v0) ≤ q - 1 := by
  have : (u * 4294967296 + d) / (v1 * 4294967296 + v0) < q := by
    refine Int.ediv_lt_of_lt_mul (by omega) ?_
    rcases h with h | h
    · have := Int.mul_le_mul_of_nonneg_right h (show 0 ≤ v1 * 4294967296 + v0 by omega)
      omega
    · have e : q * (v1 * 4294967296 + v0) = q * v1 * 4294967296 + q * v0 := by grind
      rw [e]
      generalize q * v1 = p at *
      omega
  omega
theorem digit_break {v1 v0 u d q rh : Int} (hv1 : 0 < v1) (hv0 : 0 ≤ v0 ∧ v0 < 4294967296) (hq : q * v1 + rh = u) (hu : u < v1 * 4294967296 + v0) (hd : 0 ≤ d) (hq0 : 0 ≤ q)
    (hQ : (u * 4294967296 + d) / (v1 * 4294967296 + v0) ≤ q) (h : 4294967296 ≤ rh) : q = (u * 4294967296 + d) / (v1 * 4294967296 + v0) := by
  refine digit_stop hv1 hv0.1 hq hQ ?_
  have h1 : q < 4294967296 := by
    rcases Int.lt_or_le q 4294967296 with h' | h'
    · exact h'
    · have := Int.mul_le_mul_of_nonneg_right h' (show 0 ≤ v1 by omega)
      omega
  have := Int.mul_le_mul (show q ≤ 4294967296 by omega) (show v0 ≤ 4294967296 by omega) hv0.1 (by omega)
  omega
/-- Two digits, one behind the other. -/
theorem two_digits {u1 u0 w Y q1 q0 r1 : Int} (hY : 0 < Y) (h1 : q1 = (w * 4294967296 + u1) / Y) (hr : r1 = (w * 4294967296 + u1) - q1 * Y) (h0 : q0 = (r1 * 4294967296 + u0) / Y) :
    q1 * 4294967296 + q0 = (w * 18446744073709551616 + (u1 * 4294967296 + u0)) / Y ∧ (r1 * 4294967296 + u0) - q0 * Y = (w * 18446744073709551616 + (u1 * 4294967296 + u0)) % Y := by
  have e1 := Int.mul_ediv_add_emod (r1 * 4294967296 + u0) Y
  have e2 := Int.emod_nonneg (r1 * 4294967296 + u0) (show Y ≠ 0 by omega)
  have e3 := Int.emod_lt_of_pos (r1 * 4294967296 + u0) hY
  rw [← h0] at e1
  have key := (Int.ediv_emod_unique (a := w * 18446744073709551616 + (u1 * 4294967296 + u0)) (b := Y) (q := q1 * 4294967296 + q0) (r := (r1 * 4294967296 + u0) - q0 * Y) hY).2 ⟨by rw [hr]; grind, by rw [Int.mul_comm q0]; omega, by rw [Int.mul_comm q0]; omega⟩
  exact ⟨key.1.symm, key.2.symm⟩
theorem digit_init {v1 v0 u d : Int} (hv1 : 0 < v1) (hv0 : 0 ≤ v0) (hu : 0 ≤ u) (hd : d < 4294967296) : (u * 4294967296 + d) / (v1 * 4294967296 + v0) ≤ u / v1 := by
  have h1 := Int.mul_ediv_add_emod u v1
  have h2 := Int.emod_lt_of_pos u hv1
  have h3 : 0 ≤ u / v1 := Int.ediv_nonneg hu (by omega)
  have : (u * 4294967296 + d) / (v1 * 4294967296 + v0) < u / v1 + 1 := by
    refine Int.ediv_lt_of_lt_mul (by omega) ?_
    have e : (u / v1 + 1) * (v1 * 4294967296 + v0) = (v1 * (u / v1) + v1) * 4294967296 + (u / v1 + 1) * v0 := by grind
    rw [e]
    have := Int.mul_nonneg (show 0 ≤ u / v1 + 1 by omega) hv0
    omega
  omega
theorem or_add {a b s : Nat} (hb : b < 2 ^ s) (h : a * 2 ^ s + b < 18446744073709551616) : IntKind.u64.wrap ((BitVec.ofInt IntKind.u64.bits ((a * 2 ^ s : Nat) : Int) ||| BitVec.ofInt IntKind.u64.bits (b : Int)).toNat : Nat) = ((a * 2 ^ s + b : Nat) : Int) := by
  have e : (BitVec.ofInt IntKind.u64.bits ((a * 2 ^ s : Nat) : Int) ||| BitVec.ofInt IntKind.u64.bits (b : Int)).toNat = a * 2 ^ s + b := by
    show (BitVec.ofInt 64 ((a * 2 ^ s : Nat) : Int) ||| BitVec.ofInt 64 (b : Int)).toNat = _
    rw [BitVec.toNat_or, BitVec.ofInt_natCast, BitVec.ofInt_natCast, BitVec.toNat_ofNat, BitVec.toNat_ofNat, Nat.mod_eq_of_lt (by omega), Nat.mod_eq_of_lt (by omega), ← Nat.shiftLeft_eq, Nat.shiftLeft_add_eq_or_of_lt hb]
  rw [e, wmu64]
  omega
set_option maxHeartbeats 4000000 in
theorem Div64_ok (hi lo y : Nat) (h1 : hi < y) (hy : y < 18446744073709551616) (hlo : lo < 18446744073709551616) :
    Pure Try.prog 80 [.n .u64 hi, .n .u64 lo, .n .u64 y] (.tup [.n .u64 ((hi * 18446744073709551616 + lo) / y : Nat), .n .u64 ((hi * 18446744073709551616 + lo) % y : Nat)]) := by
  refine pure_of_wp of80 (Nat.le_of_ble_eq_true rfl) ?_
  refine DecK.beq (fun h => by omega) (fun _ => ?_)
  refine DecK.dec (fun h => by omega) (fun _ => ?_)
  refine DecK.beq (fun h => ?_) (fun h0 => ?_)
  · obtain rfl : hi = 0 := by omega
    refine OptK.mk _ (op_quo (by omega)) ?_
    refine OptK.mk _ (op_rem (by omega)) ?_
    ((repeat' first | refine DecK.tt ?_ | refine DecK.ff ?_ | refine DecK.beq (fun _ => ?_) (fun _ => ?_) | refine DecK.bne (fun _ => ?_) (fun _ => ?_) | refine DecK.dec (fun _ => ?_) (fun _ => ?_) | refine OptK.mk _ rfl ?_ | refine endV (by rfl) ?_) <;> (try with_reducible rfl))
    rw [IntWalk.up_tdiv (x := lo) (y := y) rfl rfl, IntWalk.up_tmod (x := lo) (y := y) rfl rfl, wmu64, Nat.zero_mul, Nat.zero_add]
    have := Nat.div_le_self lo y
    generalize lo / y = qq at *
    generalize lo % y = rr at *
    simp only [V.tup.injEq, V.agg.injEq, V.n.injEq, V.b.injEq, V.s.injEq, List.cons.injEq, true_and, and_true]
    omega
  refine CallK.mk _ (Lead64_ok y hy) rfl ?_
  have hb := blen_spec y
  have hb1 := (hb.2 (by omega)).2
  have hb2 := (hb.2 (by omega)).1
  have hb3 : blen y ≤ 64 := by
    have : blen y - 1 < 64 := (Nat.pow_lt_pow_iff_right (show 1 < 2 by decide)).1 (Nat.lt_of_le_of_lt hb2 hy)
    omega
  obtain ⟨s, hs⟩ : ∃ s, s = 64 - blen y := ⟨_, rfl⟩
  rw [← hs]
  -- the divisor, shifted so far that its highest bit is set
  have hTV : 2 ^ s * 2 ^ (64 - s) = 18446744073709551616 := by rw [← Nat.pow_add, show s + (64 - s) = 64 by omega]
  have hT0 : 0 < 2 ^ s := Nat.pow_pos (by decide)
  have hV0 : 0 < 2 ^ (64 - s) := Nat.pow_pos (by decide)
  have hY1 : y * 2 ^ s < 18446744073709551616 := by
    rw [← hTV, Nat.mul_comm (2 ^ s), show 64 - s = blen y by omega]
    exact Nat.mul_lt_mul_of_pos_right hb.1 hT0
  have hY2 : 9223372036854775808 ≤ y * 2 ^ s := by
    have e : 2 ^ (blen y - 1) * 2 ^ s = 9223372036854775808 := by rw [← Nat.pow_add, show blen y - 1 + s = 63 by omega]
    rw [← e]
    exact Nat.mul_le_mul_right _ hb2
  obtain ⟨T, hT⟩ : ∃ T, T = 2 ^ s := ⟨_, rfl⟩
  obtain ⟨V, hV⟩ : ∃ V, V = 2 ^ (64 - s) := ⟨_, rfl⟩
  have hdivlt : lo / V < T := by
    rw [hV, hT]
    exact (Nat.div_lt_iff_lt_mul hV0).2 (by rw [hTV]; exact hlo)
  have hhi : hi * T + lo / V < y * T := by
    have := Nat.mul_le_mul_right T (show hi + 1 ≤ y from h1)
    rw [Nat.add_mul] at this
    omega
  -- the upper and the lower half of the dividend, shifted as far
  obtain ⟨u, hu⟩ : ∃ u, u = hi * T + lo / V := ⟨_, rfl⟩
  obtain ⟨w, hw⟩ : ∃ w, w = lo % V * T := ⟨_, rfl⟩
  have hwlt : w < 18446744073709551616 := by
    rw [hw, ← hTV, ← hT, ← hV, Nat.mul_comm T]
    exact Nat.mul_lt_mul_of_pos_right (Nat.mod_lt _ (by omega)) (by omega)
  have hlow : lo * T = lo / V * 18446744073709551616 + w := by
    have := Nat.div_add_mod lo V
    rw [hw, ← hTV, ← hT, ← hV]
    calc lo * T = (V * (lo / V) + lo % V) * T := by rw [this]
      _ = _ := by grind
  have hU : u * 18446744073709551616 + w = (hi * 18446744073709551616 + lo) * T := by
    rw [hu, Nat.add_mul (hi * 18446744073709551616), hlow, Nat.add_mul, Nat.mul_right_comm]
    omega
  obtain ⟨Y, hY⟩ : ∃ Y, Y = y * T := ⟨_, rfl⟩
  rw [← hT, ← hY] at hY1 hY2
  rw [← hY, ← hu] at hhi
  have ws : IntKind.u64.wrap (s : Int) = s := wu64 (by omega)
  have wY : IntKind.u64.wrap ((y : Int) * 2 ^ (IntKind.u64.wrap (s : Int)).toNat) = Y := by
    rw [ws, Int.toNat_natCast, show ((y : Int) * 2 ^ s) = ((y * 2 ^ s : Nat) : Int) by rw [Int.natCast_mul, Int.natCast_pow]; rfl, ← hT, ← hY]
    exact wu64 (by omega)
  have wH : IntKind.u64.wrap ((hi : Int) * 2 ^ (IntKind.u64.wrap (s : Int)).toNat) = (hi * 2 ^ s : Nat) := by
    rw [ws, Int.toNat_natCast, show ((hi : Int) * 2 ^ s) = ((hi * 2 ^ s : Nat) : Int) by rw [Int.natCast_mul, Int.natCast_pow]; rfl, ← hT]
    exact wu64 (by omega)
  have wL : IntKind.u64.wrap ((lo : Int) * 2 ^ (IntKind.u64.wrap (s : Int)).toNat) = w := by
    rw [ws, Int.toNat_natCast, show ((lo : Int) * 2 ^ s) = ((lo * 2 ^ s : Nat) : Int) by rw [Int.natCast_mul, Int.natCast_pow]; rfl, ← hT, hlow, wmu64]
    omega
  have w64s : IntKind.u64.wrap (64 - IntKind.u64.wrap (s : Int)) = ((64 - s : Nat) : Int) := by rw [ws, wu64 (by omega)]; omega
  have wlo : (lo : Int) / 2 ^ (IntKind.u64.wrap (64 - IntKind.u64.wrap (s : Int))).toNat = (lo / V : Nat) := by
    rw [w64s, Int.toNat_natCast, hV, Int.natCast_ediv, Int.natCast_pow]
    rfl
  have wor : IntKind.u64.wrap ((BitVec.ofInt IntKind.u64.bits (IntKind.u64.wrap ((hi : Int) * 2 ^ (IntKind.u64.wrap (s : Int)).toNat)) ||| BitVec.ofInt IntKind.u64.bits ((lo : Int) / 2 ^ (IntKind.u64.wrap (64 - IntKind.u64.wrap (s : Int))).toNat)).toNat : Nat) = u := by
    rw [wH, wlo, or_add (by rw [← hT]; exact hdivlt) (by rw [← hT]; omega), hu, hT]
  have sh : ∀ z : Int, z.fdiv (2 ^ min (Int.toNat 32) IntKind.u64.bits) = z / 4294967296 := fun z => Int.fdiv_eq_ediv_of_nonneg z (by decide)
  refine OptK.mk _ (op_shl (by omega) (by show (IntKind.u64.wrap (s : Int)).toNat ≤ 64; rw [ws]; omega)) ?_
  refine OptK.mk _ (op_shl (by omega) (by show (IntKind.u64.wrap (s : Int)).toNat ≤ 64; rw [ws]; omega)) ?_
  refine OptK.mk _ (op_shr (by omega) (by show (IntKind.u64.wrap (64 - IntKind.u64.wrap (s : Int))).toNat ≤ 64; rw [w64s]; omega)) ?_
  refine OptK.mk _ (op_shl (by omega) (by show (IntKind.u64.wrap (s : Int)).toNat ≤ 64; rw [ws]; omega)) ?_
  obtain ⟨v1, hv1⟩ : ∃ v1 : Int, v1 = (Y : Int) / 4294967296 := ⟨_, rfl⟩
  obtain ⟨v0, hv0⟩ : ∃ v0 : Int, v0 = (Y : Int) % 4294967296 := ⟨_, rfl⟩
  obtain ⟨w1, hw1⟩ : ∃ w1 : Int, w1 = (w : Int) / 4294967296 := ⟨_, rfl⟩
  obtain ⟨w0, hw0⟩ : ∃ w0 : Int, w0 = (w : Int) % 4294967296 := ⟨_, rfl⟩
  have aY := and32 (x := (Y : Int)) (by omega)
  have aw := and32 (x := (w : Int)) (by omega)
  have hYv : (Y : Int) = v1 * 4294967296 + v0 := by omega
  have bv1 : 2147483648 ≤ v1 ∧ v1 < 4294967296 := by omega
  have bv0 : 0 ≤ v0 ∧ v0 < 4294967296 := by omega
  have bw1 : 0 ≤ w1 ∧ w1 < 4294967296 := by omega
  have bw0 : 0 ≤ w0 ∧ w0 < 4294967296 := by omega
  have quo : ∀ x : Int, 0 ≤ x → x < Y → IntKind.u64.wrap (x.tdiv v1) = x / v1 ∧ 0 ≤ x / v1 ∧ x / v1 * v1 ≤ x ∧ IntKind.u64.wrap (x - IntKind.u64.wrap (x / v1 * v1)) = x - x / v1 * v1 ∧ 0 ≤ x - x / v1 * v1 ∧ x - x / v1 * v1 < v1 ∧ x / v1 ≤ 8589934592 := fun x h0 h1 => by
    have e1 := Int.mul_ediv_add_emod x v1
    have e2 := Int.emod_nonneg x (show v1 ≠ 0 by omega)
    have e3 := Int.emod_lt_of_pos x (show 0 < v1 by omega)
    have e4 : 0 ≤ x / v1 := Int.ediv_nonneg h0 (by omega)
    have e5 : x / v1 ≤ x := Int.ediv_le_self v1 h0
    have e6 : x / v1 < 8589934593 := Int.ediv_lt_of_lt_mul (by omega) (by omega)
    rw [Int.mul_comm] at e1
    have e7 := Int.mul_nonneg e4 (show 0 ≤ v1 by omega)
    rw [Int.tdiv_eq_ediv_of_nonneg h0]
    refine ⟨wu64 (by omega), e4, by omega, ?_, by omega, by omega, by omega⟩
    rw [wu64 (n := x / v1 * v1) (by omega)]
    exact wu64 (by omega)
  have hvne : (IntKind.u64.wrap ((y : Int) * 2 ^ (IntKind.u64.wrap (s : Int)).toNat)).fdiv (2 ^ min (Int.toNat 32) IntKind.u64.bits) ≠ 0 := by rw [wY, sh]; omega
  obtain ⟨k1, k2, k3, k4, k5, k6, k7⟩ := quo u (by omega) (by omega)
  refine OptK.mk _ (op_quo hvne) ?_
  refine loop_eq (st' := ⟨[(2, .v (.n .u64 Y)), (8, .v (.n .u64 s)), (9, .v (.n .u64 v1)), (10, .v (.n .u64 v0)), (11, .v (.n .u64 u)), (13, .v (.n .u64 w1)), (14, .v (.n .u64 w0)), (15, .v (.n .u64 (u / v1))), (16, .v (.n .u64 (u - u / v1 * v1)))], []⟩) (by
    simp only [wY, wL, wor, sh, aY, aw, ← hv1, ← hv0, ← hw1, ← hw0, k1, k4]
    rw [ws]) ?_
  refine loop_left 0 (fun (a : Int × Int) tail => ⟨(2, .v (.n .u64 Y)) :: (8, .v (.n .u64 s)) :: (9, .v (.n .u64 v1)) :: (10, .v (.n .u64 v0)) :: (11, .v (.n .u64 u)) :: (13, .v (.n .u64 w1)) :: (14, .v (.n .u64 w0)) :: (15, .v (.n .u64 a.1)) :: (16, .v (.n .u64 a.2)) :: tail, []⟩)
    (fun a => a.1 = ((u : Int) * 4294967296 + w1) / (v1 * 4294967296 + v0)) ?_ ?_
  · refine loop_ind2 (fun (q rh : Int) => ⟨[(2, .v (.n .u64 Y)), (8, .v (.n .u64 s)), (9, .v (.n .u64 v1)), (10, .v (.n .u64 v0)), (11, .v (.n .u64 u)), (13, .v (.n .u64 w1)), (14, .v (.n .u64 w0)), (15, .v (.n .u64 q)), (16, .v (.n .u64 rh))], []⟩) (fun q rh => q.toNat)
      (fun q rh => 0 ≤ q ∧ q ≤ 8589934592 ∧ 0 ≤ rh ∧ rh < 4294967296 ∧ q * v1 + rh = u ∧ ((u : Int) * 4294967296 + w1) / (v1 * 4294967296 + v0) ≤ q) _ _ ⟨k2, k7, k5, by omega, by omega, digit_init (by omega) bv0.1 (by omega) bw1.2⟩ ?_
    intro q rh ⟨g1, g2, g3, g4, g5, g6⟩ ih
    have wb : IntKind.u64.wrap (IntKind.u64.wrap (4294967296 * rh) + w1) = 4294967296 * rh + w1 := by simp (discharger := omega) only [w64, wu64, wu8, w32, wu32, tdivC, tmodC]
    have wr : IntKind.u64.wrap (rh + v1) = rh + v1 := by simp (discharger := omega) only [w64, wu64, wu8, w32, wu32, tdivC, tmodC]
    have wqv : q < 4294967296 → IntKind.u64.wrap (q * v0) = q * v0 := fun h => by
      have := Int.mul_nonneg g1 bv0.1
      have := Int.mul_le_mul (show q ≤ 4294967295 by omega) (show v0 ≤ 4294967295 by omega) bv0.1 (by omega)
      exact wu64 (by omega)
    have fin : (q < 4294967296 ∧ q * v0 ≤ 4294967296 * rh + w1) → q = ((u : Int) * 4294967296 + w1) / (v1 * 4294967296 + v0) := fun h => digit_stop (by omega) bv0.1 g5 g6 h.2
    have go : (q ≥ 4294967296 ∨ 4294967296 * rh + w1 < q * v0) → ((u : Int) * 4294967296 + w1) / (v1 * 4294967296 + v0) ≤ q - 1 ∧ 1 ≤ q ∧ (q - 1) * v1 + (rh + v1) = u := fun h => by
      have a1 := digit_go (by omega) bv0.1 g5 (by omega) bw1.2 h
      have a2 : 0 ≤ ((u : Int) * 4294967296 + w1) / (v1 * 4294967296 + v0) := Int.ediv_nonneg (by omega) (by omega)
      refine ⟨a1, by omega, ?_⟩
      rw [Int.sub_mul]; omega
    have fin2 : (q ≥ 4294967296 ∨ 4294967296 * rh + w1 < q * v0) → 4294967296 ≤ rh + v1 → q - 1 = ((u : Int) * 4294967296 + w1) / (v1 * 4294967296 + v0) := fun h h' => by
      obtain ⟨a1, a2, a3⟩ := go h
      exact digit_break (by omega) bv0 a3 (by omega) bw1.1 (by omega) a1 h'
    have step : (hc : q ≥ 4294967296 ∨ 4294967296 * rh + w1 < q * v0) → IntKind.u64.wrap (q - 1) = q - 1 := fun h => by have := (go h).2.1; exact wu64 (by omega)
    refine DecK.dec (fun h => ?_) (fun h => ?_)
    · refine DecK.tt ?_
      refine DecK.dec (fun h' => ?_) (fun h' => ?_)
      · rw [wr] at h'
        refine LeftAt.mk (_, _) _ rfl rfl ?_
        show IntKind.u64.wrap (q - 1) = _
        rw [step (.inl h)]
        exact fin2 (.inl h) h'
      · rw [wr] at h'
        obtain ⟨a1, a2, a3⟩ := go (.inl h)
        refine ih _ _ ⟨?_, ?_, ?_, ?_, ?_, ?_⟩ ?_
        all_goals first | rw [step (.inl h), wr] | rw [step (.inl h)] | rw [wr]
        all_goals omega
    · refine DecK.dec (fun h2 => ?_) (fun h2 => ?_)
      · rw [wqv (by omega), wb] at h2
        refine DecK.dec (fun h' => ?_) (fun h' => ?_)
        · rw [wr] at h'
          refine LeftAt.mk (_, _) _ rfl rfl ?_
          show IntKind.u64.wrap (q - 1) = _
          rw [step (.inr h2)]
          exact fin2 (.inr h2) h'
        · rw [wr] at h'
          obtain ⟨a1, a2, a3⟩ := go (.inr h2)
          refine ih _ _ ⟨?_, ?_, ?_, ?_, ?_, ?_⟩ ?_
          all_goals first | rw [step (.inr h2), wr] | rw [step (.inr h2)] | rw [wr]
          all_goals omega
      · rw [wqv (by omega), wb] at h2
        refine LeftAt.mk (_, _) _ rfl rfl ?_
        exact fin ⟨by omega, by omega⟩
  · intro ⟨q1, rh⟩ tail hq1
    dsimp only at hq1
    rw [← hYv] at hq1
    obtain ⟨r1, hr1⟩ : ∃ r1 : Int, r1 = ((u : Int) * 4294967296 + w1) - q1 * Y := ⟨_, rfl⟩
    have br1 : 0 ≤ r1 ∧ r1 < Y := by
      have e1 := Int.mul_ediv_add_emod ((u : Int) * 4294967296 + w1) Y
      have e2 := Int.emod_nonneg ((u : Int) * 4294967296 + w1) (show (Y : Int) ≠ 0 by omega)
      have e3 := Int.emod_lt_of_pos ((u : Int) * 4294967296 + w1) (show (0 : Int) < Y by omega)
      rw [← hq1, Int.mul_comm] at e1
      omega
    have wr1 : IntKind.u64.wrap (IntKind.u64.wrap (IntKind.u64.wrap ((u : Int) * 4294967296) + w1) - IntKind.u64.wrap (q1 * Y)) = r1 := by
      simp only [wmu64]
      omega
    obtain ⟨m1, m2, m3, m4, m5, m6, m7⟩ := quo r1 br1.1 br1.2
    refine OptK.mk _ (op_quo (by omega)) ?_
    refine loop_eq (st' := ⟨[(2, .v (.n .u64 Y)), (8, .v (.n .u64 s)), (9, .v (.n .u64 v1)), (10, .v (.n .u64 v0)), (14, .v (.n .u64 w0)), (15, .v (.n .u64 q1)), (16, .v (.n .u64 (r1 - r1 / v1 * v1))), (17, .v (.n .u64 r1)), (18, .v (.n .u64 (r1 / v1)))], []⟩) (by
      simp only [wr1, m1, m4]) ?_
    refine loop_left 2 (fun (a : Int × Int) tail => ⟨(2, .v (.n .u64 Y)) :: (8, .v (.n .u64 s)) :: (9, .v (.n .u64 v1)) :: (10, .v (.n .u64 v0)) :: (14, .v (.n .u64 w0)) :: (15, .v (.n .u64 q1)) :: (16, .v (.n .u64 a.2)) :: (17, .v (.n .u64 r1)) :: (18, .v (.n .u64 a.1)) :: tail, []⟩)
      (fun a => a.1 = (r1 * 4294967296 + w0) / (v1 * 4294967296 + v0)) ?_ ?_
    · refine loop_ind2 (fun (q rh : Int) => ⟨[(2, .v (.n .u64 Y)), (8, .v (.n .u64 s)), (9, .v (.n .u64 v1)), (10, .v (.n .u64 v0)), (14, .v (.n .u64 w0)), (15, .v (.n .u64 q1)), (16, .v (.n .u64 rh)), (17, .v (.n .u64 r1)), (18, .v (.n .u64 q))], []⟩) (fun q rh => q.toNat)
        (fun q rh => 0 ≤ q ∧ q ≤ 8589934592 ∧ 0 ≤ rh ∧ rh < 4294967296 ∧ q * v1 + rh = r1 ∧ (r1 * 4294967296 + w0) / (v1 * 4294967296 + v0) ≤ q) _ _ ⟨m2, m7, m5, by omega, by omega, digit_init (by omega) bv0.1 (by omega) bw0.2⟩ ?_
      intro q rh ⟨g1, g2, g3, g4, g5, g6⟩ ih
      have wb : IntKind.u64.wrap (IntKind.u64.wrap (4294967296 * rh) + w0) = 4294967296 * rh + w0 := by simp (discharger := omega) only [w64, wu64, wu8, w32, wu32, tdivC, tmodC]
      have wr : IntKind.u64.wrap (rh + v1) = rh + v1 := by simp (discharger := omega) only [w64, wu64, wu8, w32, wu32, tdivC, tmodC]
      have wqv : q < 4294967296 → IntKind.u64.wrap (q * v0) = q * v0 := fun h => by
        have := Int.mul_nonneg g1 bv0.1
        have := Int.mul_le_mul (show q ≤ 4294967295 by omega) (show v0 ≤ 4294967295 by omega) bv0.1 (by omega)
        exact wu64 (by omega)
      have fin : (q < 4294967296 ∧ q * v0 ≤ 4294967296 * rh + w0) → q = (r1 * 4294967296 + w0) / (v1 * 4294967296 + v0) := fun h => digit_stop (by omega) bv0.1 g5 g6 h.2
      have go : (q ≥ 4294967296 ∨ 4294967296 * rh + w0 < q * v0) → (r1 * 4294967296 + w0) / (v1 * 4294967296 + v0) ≤ q - 1 ∧ 1 ≤ q ∧ (q - 1) * v1 + (rh + v1) = r1 := fun h => by
        have a1 := digit_go (by omega) bv0.1 g5 (by omega) bw0.2 h
        have a2 : 0 ≤ (r1 * 4294967296 + w0) / (v1 * 4294967296 + v0) := Int.ediv_nonneg (by omega) (by omega)
        refine ⟨a1, by omega, ?_⟩
        rw [Int.sub_mul]; omega
      have fin2 : (q ≥ 4294967296 ∨ 4294967296 * rh + w0 < q * v0) → 4294967296 ≤ rh + v1 → q - 1 = (r1 * 4294967296 + w0) / (v1 * 4294967296 + v0) := fun h h' => by
        obtain ⟨a1, a2, a3⟩ := go h
        exact digit_break (by omega) bv0 a3 (by omega) bw0.1 (by omega) a1 h'
      have step : (hc : q ≥ 4294967296 ∨ 4294967296 * rh + w0 < q * v0) → IntKind.u64.wrap (q - 1) = q - 1 := fun h => by have := (go h).2.1; exact wu64 (by omega)
      refine DecK.dec (fun h => ?_) (fun h => ?_)
      · refine DecK.tt ?_
        refine DecK.dec (fun h' => ?_) (fun h' => ?_)
        · rw [wr] at h'
          refine LeftAt.mk (_, _) _ rfl rfl ?_
          show IntKind.u64.wrap (q - 1) = _
          rw [step (.inl h)]
          exact fin2 (.inl h) h'
        · rw [wr] at h'
          obtain ⟨a1, a2, a3⟩ := go (.inl h)
          refine ih _ _ ⟨?_, ?_, ?_, ?_, ?_, ?_⟩ ?_
          all_goals first | rw [step (.inl h), wr] | rw [step (.inl h)] | rw [wr]
          all_goals omega
      · refine DecK.dec (fun h2 => ?_) (fun h2 => ?_)
        · rw [wqv (by omega), wb] at h2
          refine DecK.dec (fun h' => ?_) (fun h' => ?_)
          · rw [wr] at h'
            refine LeftAt.mk (_, _) _ rfl rfl ?_
            show IntKind.u64.wrap (q - 1) = _
            rw [step (.inr h2)]
            exact fin2 (.inr h2) h'
          · rw [wr] at h'
            obtain ⟨a1, a2, a3⟩ := go (.inr h2)
            refine ih _ _ ⟨?_, ?_, ?_, ?_, ?_, ?_⟩ ?_
            all_goals first | rw [step (.inr h2), wr] | rw [step (.inr h2)] | rw [wr]
            all_goals omega
        · rw [wqv (by omega), wb] at h2
          refine LeftAt.mk (_, _) _ rfl rfl ?_
          exact fin ⟨by omega, by omega⟩
    · intro ⟨q0, rh0⟩ tail0 hq0
      dsimp only at hq0
      rw [← hYv] at hq0
      obtain ⟨t1, t2⟩ := two_digits (by omega) hq1 hr1 hq0
      refine OptK.mk _ (op_shr (by omega) (by show (s : Int).toNat ≤ 64; omega)) ?_
      ((repeat' first | refine DecK.tt ?_ | refine DecK.ff ?_ | refine DecK.beq (fun _ => ?_) (fun _ => ?_) | refine DecK.bne (fun _ => ?_) (fun _ => ?_) | refine DecK.dec (fun _ => ?_) (fun _ => ?_) | refine OptK.mk _ rfl ?_ | refine endV (by rfl) ?_) <;> (try with_reducible rfl))
      obtain ⟨N, hN⟩ : ∃ N, N = hi * 18446744073709551616 + lo := ⟨_, rfl⟩
      rw [← hN] at hU
      rw [← hN]
      have eX : (u : Int) * 18446744073709551616 + (w1 * 4294967296 + w0) = ((u * 18446744073709551616 + w : Nat) : Int) := by omega
      rw [eX, hU] at t1 t2
      have d1 : ((N * T : Nat) : Int) / (Y : Int) = ((N / y : Nat) : Int) := by
        rw [hY, ← Nat.mul_div_mul_right N y (show 0 < T by omega)]; rfl
      have d2 : ((N * T : Nat) : Int) % (Y : Int) = ((N % y * T : Nat) : Int) := by
        rw [hY, ← Nat.mul_mod_mul_right]; rfl
      rw [d1] at t1
      rw [d2] at t2
      have hq : N / y < 18446744073709551616 := (Nat.div_lt_iff_lt_mul (by omega)).2 (by omega)
      have hr : N % y < y := Nat.mod_lt _ (by omega)
      have hrT : N % y * T < Y := by rw [hY]; exact Nat.mul_lt_mul_of_pos_right hr (by omega)
      have hfin : ((N % y * T : Nat) : Int) / 2 ^ (s : Int).toNat = (N % y : Nat) := by
        rw [Int.toNat_natCast, show ((2 : Int) ^ s) = ((2 ^ s : Nat) : Int) by rw [Int.natCast_pow]; rfl, ← hT]
        have := Nat.mul_div_cancel (N % y) (show 0 < T by omega)
        show ((N % y * T / T : Nat) : Int) = _
        rw [this]
      generalize N / y = A at *
      generalize hB : N % y * T = B at *
      have f1 : IntKind.u64.wrap (IntKind.u64.wrap (q1 * 4294967296) + q0) = A := by simp only [wmu64]; omega
      have f2 : IntKind.u64.wrap (IntKind.u64.wrap (IntKind.u64.wrap (r1 * 4294967296) + w0) - IntKind.u64.wrap (q0 * Y)) = B := by simp only [wmu64]; omega
      rw [f1, f2, hfin]
end Go.Proofs.Ytjeafcngljbdlaa.Sv

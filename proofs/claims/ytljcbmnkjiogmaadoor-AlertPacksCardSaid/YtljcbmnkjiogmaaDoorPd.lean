/- Alerts in packed form: Pack, and the reference's. No condition. -/
import Derived.Test.YtljcbmnkjiogmaaDoorPc
namespace Go.Proofs.YtljcbmnkjiogmaaDoor.Sv
open Go Go.RowKit
set_option linter.unusedVariables false
set_option linter.unusedSimpArgs false
set_option maxRecDepth 100000
/-- live: [1, 5, 27, 28, 29] -/
def L5_0 : SC := .seq (.reg [⟨some 30, none, .po (.bin .lss), [.tm 29, .tm 28]⟩] [1, 5, 27, 28, 29, 30]) (.seq (.cond (.tm 30) .skip (.exit 0)) (.seq (.block 1 (.seq (.reg [⟨some 31, none, .mv, [.tm 29]⟩, ⟨some 32, none, .ia none 1, [.tm 27, .tm 29]⟩, ⟨some 33, none, .ld false 1 true, [.tm 32]⟩, ⟨some 6, none, .mv, [.tm 31]⟩, ⟨some 7, none, .mv, [.tm 33]⟩] [1, 5, 6, 7, 27, 28, 29]) (.seq (.reg [⟨some 34, none, .mv, [.tm 7]⟩] [1, 5, 6, 27, 28, 29, 34]) (.cond (.tm 34) (.reg [⟨some 35, none, .mv, [.tm 5]⟩, ⟨some 36, none, .mv, [.tm 6]⟩, ⟨some 37, none, .po (.bin .shl), [.cn (.n .i64 1), .tm 36]⟩, ⟨some 38, none, .po (.bin .or), [.tm 35, .tm 37]⟩, ⟨some 5, none, .mv, [.tm 38]⟩] [1, 5, 27, 28, 29]) .skip)))) (.reg [⟨some 39, none, .po (.bin .add), [.tm 29, .cn (.n .i64 1)]⟩, ⟨some 29, none, .mv, [.tm 39]⟩] [1, 5, 27, 28, 29])))
/-- spyglass/alert.Pack -/
def F5 : Fn1 := ⟨93, .seq (.reg [⟨some 1, none, .box, [.tm 0]⟩, ⟨some 2, none, .adopt 1, []⟩, ⟨some 3, none, .mv, [.cn (.n .i64 0)]⟩] [1]) (.seq (.seq (.reg [⟨some 10, none, .ld true 16 false, [.tm 1]⟩, ⟨some 11, none, .call 17, [.tm 10]⟩, ⟨some 4, none, .mv, [.tm 11]⟩] [1, 4]) (.seq (.reg [⟨some 12, none, .mv, [.tm 4]⟩, ⟨some 13, none, .po (.bin .neq), [.tm 12, .cn (.n .i64 0)]⟩] [1, 4, 13]) (.cond (.tm 13) (.seq (.reg [⟨some 14, none, .mv, [.tm 4]⟩, ⟨some 2, none, .adopt 1, []⟩, ⟨some 3, none, .mv, [.tm 14]⟩] [2, 3]) .ret) .skip))) (.seq (.reg [⟨some 5, none, .mv, [.cn (.n .i64 0)]⟩] [1, 5]) (.seq (.seq (.reg [⟨some 15, none, .fa 3, [.tm 1]⟩, ⟨some 16, none, .fa 2, [.tm 15]⟩, ⟨some 17, none, .ld false 1 false, [.tm 16]⟩, ⟨some 18, none, .fa 6, [.tm 1]⟩, ⟨some 19, none, .fa 2, [.tm 18]⟩, ⟨some 20, none, .ld false 1 false, [.tm 19]⟩, ⟨some 21, none, .fa 9, [.tm 1]⟩, ⟨some 22, none, .fa 2, [.tm 21]⟩, ⟨some 23, none, .ld false 1 false, [.tm 22]⟩, ⟨some 24, none, .fa 12, [.tm 1]⟩, ⟨some 25, none, .fa 2, [.tm 24]⟩, ⟨some 26, none, .ld false 1 false, [.tm 25]⟩, ⟨some 27, none, .po (.bsl 4 [.b false] [(0, 1), (1, 1), (2, 1), (3, 1)]), [.tm 17, .tm 20, .tm 23, .tm 26]⟩, ⟨some 28, none, .len false, [.tm 27]⟩, ⟨some 29, none, .mv, [.cn (.n .i64 0)]⟩] [1, 5, 27, 28, 29]) (.block 0 (.loop [1, 5, 27, 28, 29] L5_0))) (.seq (.reg [⟨some 40, none, .fa 1, [.tm 1]⟩, ⟨some 41, none, .ld false 1 false, [.tm 40]⟩, ⟨some 42, none, .mv, [.tm 5]⟩, ⟨some 43, none, .po (.bin .shl), [.tm 42, .cn (.n .u64 4)]⟩, ⟨some 44, none, .po (.bin .or), [.tm 41, .tm 43]⟩, ⟨some 45, none, .po (.toInt .u8), [.tm 44]⟩, ⟨some 46, none, .bslO 2 [.n .u8 0] [(0, 1), (1, 1)], [.cn (.n .u8 165), .tm 45]⟩, ⟨some 47, none, .fa 0, [.tm 1]⟩, ⟨some 48, none, .ld false 1 false, [.tm 47]⟩, ⟨some 49, none, .po (.toInt .u64), [.tm 48]⟩, ⟨some 50, none, .callV 18, [.tm 46, .tm 49]⟩, ⟨some 8, none, .mv, [.tm 50]⟩] [1, 8]) (.seq (.seq (.reg [⟨some 51, none, .mv, [.tm 8]⟩, ⟨some 52, none, .fa 3, [.tm 1]⟩, ⟨some 53, none, .ld true 3 false, [.tm 52]⟩, ⟨some 54, none, .callV 19, [.tm 51, .tm 53]⟩, ⟨some 8, none, .mv, [.tm 54]⟩] [1, 8]) (.seq (.reg [⟨some 55, none, .fa 1, [.tm 1]⟩, ⟨some 56, none, .ld false 1 false, [.tm 55]⟩, ⟨some 57, none, .po (.bin .eql), [.tm 56, .cn (.n .i64 6)]⟩] [1, 8, 57]) (.cond (.tm 57) (.reg [⟨some 58, none, .mv, [.tm 8]⟩, ⟨some 59, none, .fa 15, [.tm 1]⟩, ⟨some 60, none, .ld false 1 false, [.tm 59]⟩, ⟨some 61, none, .po (.toInt .u64), [.tm 60]⟩, ⟨some 62, none, .callV 18, [.tm 58, .tm 61]⟩, ⟨some 8, none, .mv, [.tm 62]⟩] [8]) (.dreg [⟨some 63, none, .mv, [.tm 8]⟩, ⟨some 64, none, .fa 2, [.tm 1]⟩, ⟨some 65, none, .ld false 1 false, [.tm 64]⟩, ⟨some 66, none, .po (.toInt .u64), [.tm 65]⟩, ⟨some 67, none, .callV 18, [.tm 63, .tm 66]⟩, ⟨some 68, none, .fa 6, [.tm 1]⟩, ⟨some 69, none, .ld true 3 false, [.tm 68]⟩, ⟨some 70, none, .callV 21, [.tm 67, .tm 69]⟩, ⟨some 71, none, .fa 9, [.tm 1]⟩, ⟨some 72, none, .ld true 3 false, [.tm 71]⟩, ⟨some 73, none, .callV 21, [.tm 70, .tm 72]⟩, ⟨some 74, none, .fa 12, [.tm 1]⟩, ⟨some 75, none, .ld true 3 false, [.tm 74]⟩, ⟨some 76, none, .callV 20, [.tm 73, .tm 75]⟩, ⟨some 8, none, .mv, [.tm 76]⟩] [(4, 5), (4, 6), (4, 8), (7, 8), (4, 9), (7, 9), (4, 11), (7, 11), (10, 11), (4, 12), (7, 12), (10, 12)] [8])))) (.seq (.reg [⟨some 77, none, .mv, [.tm 8]⟩, ⟨some 78, none, .call 7, [.tm 77]⟩, ⟨some 9, none, .mv, [.tm 78]⟩] [8, 9]) (.seq (.reg [⟨some 79, none, .mv, [.tm 8]⟩, ⟨some 80, none, .mv, [.tm 9]⟩, ⟨some 81, none, .po (.bin .shr), [.tm 80, .cn (.n .u64 24)]⟩, ⟨some 82, none, .po (.toInt .u8), [.tm 81]⟩, ⟨some 83, none, .mv, [.tm 9]⟩, ⟨some 84, none, .po (.bin .shr), [.tm 83, .cn (.n .u64 16)]⟩, ⟨some 85, none, .po (.toInt .u8), [.tm 84]⟩, ⟨some 86, none, .mv, [.tm 9]⟩, ⟨some 87, none, .po (.bin .shr), [.tm 86, .cn (.n .u64 8)]⟩, ⟨some 88, none, .po (.toInt .u8), [.tm 87]⟩, ⟨some 89, none, .mv, [.tm 9]⟩, ⟨some 90, none, .po (.toInt .u8), [.tm 89]⟩, ⟨some 91, none, .bslO 4 [.n .u8 0] [(0, 1), (1, 1), (2, 1), (3, 1)], [.tm 82, .tm 85, .tm 88, .tm 90]⟩, ⟨some 92, none, .app 1 1, [.tm 79, .tm 91]⟩, ⟨some 2, none, .mv, [.tm 92]⟩, ⟨some 3, none, .mv, [.cn (.n .i64 0)]⟩] [2, 3]) .ret))))))), [.tm 2, .tm 3]⟩
theorem of5 : Fn1.of Tryd.prog 5 ⟨true, [1000018, 1000019, 1000020, 1000021], false⟩ [[1], [1, 4], [1, 4, 13], [2, 3], [1, 5], [1, 5, 27, 28, 29], [1, 5, 27, 28, 29], [1, 5, 27, 28, 29, 30], [1, 5, 6, 7, 27, 28, 29], [1, 5, 6, 27, 28, 29, 34], [1, 5, 27, 28, 29], [1, 5, 27, 28, 29], [1, 8], [1, 8], [1, 8, 57], [8], [8], [8, 9], [2, 3]] = some F5 := by kernel_rfl
/-- live: [1, 3, 21, 22, 23] -/
def L11_0 : SC := .seq (.reg [⟨some 24, none, .po (.bin .lss), [.tm 23, .tm 22]⟩] [1, 3, 21, 22, 23, 24]) (.seq (.cond (.tm 24) .skip (.exit 0)) (.seq (.block 1 (.seq (.reg [⟨some 25, none, .mv, [.tm 23]⟩, ⟨some 26, none, .ia none 1, [.tm 21, .tm 23]⟩, ⟨some 27, none, .ld false 1 true, [.tm 26]⟩, ⟨some 4, none, .mv, [.tm 25]⟩, ⟨some 5, none, .mv, [.tm 27]⟩] [1, 3, 4, 5, 21, 22, 23]) (.seq (.reg [⟨some 28, none, .mv, [.tm 5]⟩] [1, 3, 4, 21, 22, 23, 28]) (.cond (.tm 28) (.reg [⟨some 29, none, .mv, [.tm 3]⟩, ⟨some 30, none, .mv, [.tm 4]⟩, ⟨some 31, none, .po (.bin .shl), [.cn (.n .i64 16), .tm 30]⟩, ⟨some 32, none, .po (.bin .add), [.tm 29, .tm 31]⟩, ⟨some 3, none, .mv, [.tm 32]⟩] [1, 3, 21, 22, 23]) .skip)))) (.reg [⟨some 33, none, .po (.bin .add), [.tm 23, .cn (.n .i64 1)]⟩, ⟨some 23, none, .mv, [.tm 33]⟩] [1, 3, 21, 22, 23])))
/-- spyglass/spyref1.Packed -/
def F11 : Fn1 := ⟨82, .seq (.reg [⟨some 1, none, .box, [.tm 0]⟩, ⟨some 2, none, .adopt 1, []⟩] [1]) (.seq (.reg [⟨some 7, none, .fa 1, [.tm 1]⟩, ⟨some 8, none, .ld false 1 false, [.tm 7]⟩, ⟨some 3, none, .mv, [.tm 8]⟩] [1, 3]) (.seq (.seq (.reg [⟨some 9, none, .fa 3, [.tm 1]⟩, ⟨some 10, none, .fa 2, [.tm 9]⟩, ⟨some 11, none, .ld false 1 false, [.tm 10]⟩, ⟨some 12, none, .fa 6, [.tm 1]⟩, ⟨some 13, none, .fa 2, [.tm 12]⟩, ⟨some 14, none, .ld false 1 false, [.tm 13]⟩, ⟨some 15, none, .fa 9, [.tm 1]⟩, ⟨some 16, none, .fa 2, [.tm 15]⟩, ⟨some 17, none, .ld false 1 false, [.tm 16]⟩, ⟨some 18, none, .fa 12, [.tm 1]⟩, ⟨some 19, none, .fa 2, [.tm 18]⟩, ⟨some 20, none, .ld false 1 false, [.tm 19]⟩, ⟨some 21, none, .po (.bsl 4 [.b false] [(0, 1), (1, 1), (2, 1), (3, 1)]), [.tm 11, .tm 14, .tm 17, .tm 20]⟩, ⟨some 22, none, .len false, [.tm 21]⟩, ⟨some 23, none, .mv, [.cn (.n .i64 0)]⟩] [1, 3, 21, 22, 23]) (.block 0 (.loop [1, 3, 21, 22, 23] L11_0))) (.seq (.reg [⟨some 34, none, .mv, [.tm 3]⟩, ⟨some 35, none, .po (.toInt .u8), [.tm 34]⟩, ⟨some 36, none, .bslO 2 [.n .u8 0] [(0, 1), (1, 1)], [.cn (.n .u8 165), .tm 35]⟩, ⟨some 37, none, .fa 0, [.tm 1]⟩, ⟨some 38, none, .ld false 1 false, [.tm 37]⟩, ⟨some 39, none, .po (.toInt .u64), [.tm 38]⟩, ⟨some 40, none, .call 28, [.tm 39]⟩, ⟨some 41, none, .app 1 1, [.tm 36, .tm 40]⟩, ⟨some 6, none, .mv, [.tm 41]⟩] [1, 6]) (.seq (.reg [⟨some 42, none, .mv, [.tm 6]⟩, ⟨some 43, none, .fa 3, [.tm 1]⟩, ⟨some 44, none, .ld true 3 false, [.tm 43]⟩, ⟨some 45, none, .call 29, [.tm 44]⟩, ⟨some 46, none, .app 1 1, [.tm 42, .tm 45]⟩, ⟨some 6, none, .mv, [.tm 46]⟩] [1, 6]) (.seq (.seq (.reg [⟨some 47, none, .fa 1, [.tm 1]⟩, ⟨some 48, none, .ld false 1 false, [.tm 47]⟩, ⟨some 49, none, .po (.bin .eql), [.tm 48, .cn (.n .i64 6)]⟩] [1, 6, 49]) (.cond (.tm 49) (.reg [⟨some 50, none, .mv, [.tm 6]⟩, ⟨some 51, none, .fa 15, [.tm 1]⟩, ⟨some 52, none, .ld false 1 false, [.tm 51]⟩, ⟨some 53, none, .po (.toInt .u64), [.tm 52]⟩, ⟨some 54, none, .call 28, [.tm 53]⟩, ⟨some 55, none, .app 1 1, [.tm 50, .tm 54]⟩, ⟨some 6, none, .mv, [.tm 55]⟩] [6]) (.seq (.reg [⟨some 56, none, .mv, [.tm 6]⟩, ⟨some 57, none, .fa 2, [.tm 1]⟩, ⟨some 58, none, .ld false 1 false, [.tm 57]⟩, ⟨some 59, none, .po (.toInt .u64), [.tm 58]⟩, ⟨some 60, none, .call 28, [.tm 59]⟩, ⟨some 61, none, .app 1 1, [.tm 56, .tm 60]⟩, ⟨some 6, none, .mv, [.tm 61]⟩] [1, 6]) (.seq (.reg [⟨some 62, none, .mv, [.tm 6]⟩, ⟨some 63, none, .fa 6, [.tm 1]⟩, ⟨some 64, none, .ld true 3 false, [.tm 63]⟩, ⟨some 65, none, .call 30, [.tm 64]⟩, ⟨some 66, none, .app 1 1, [.tm 62, .tm 65]⟩, ⟨some 6, none, .mv, [.tm 66]⟩] [1, 6]) (.seq (.reg [⟨some 67, none, .mv, [.tm 6]⟩, ⟨some 68, none, .fa 9, [.tm 1]⟩, ⟨some 69, none, .ld true 3 false, [.tm 68]⟩, ⟨some 70, none, .call 30, [.tm 69]⟩, ⟨some 71, none, .app 1 1, [.tm 67, .tm 70]⟩, ⟨some 6, none, .mv, [.tm 71]⟩] [1, 6]) (.reg [⟨some 72, none, .mv, [.tm 6]⟩, ⟨some 73, none, .fa 12, [.tm 1]⟩, ⟨some 74, none, .ld true 3 false, [.tm 73]⟩, ⟨some 75, none, .call 31, [.tm 74]⟩, ⟨some 76, none, .app 1 1, [.tm 72, .tm 75]⟩, ⟨some 6, none, .mv, [.tm 76]⟩] [6])))))) (.seq (.reg [⟨some 77, none, .mv, [.tm 6]⟩, ⟨some 78, none, .mv, [.tm 6]⟩, ⟨some 79, none, .call 8, [.tm 78]⟩, ⟨some 80, none, .call 32, [.tm 79]⟩, ⟨some 81, none, .app 1 1, [.tm 77, .tm 80]⟩, ⟨some 2, none, .mv, [.tm 81]⟩] [2]) .ret)))))), [.tm 2]⟩
theorem of11 : Fn1.of Tryd.prog 11 ⟨true, [], false⟩ [[1], [1, 3], [1, 3, 21, 22, 23], [1, 3, 21, 22, 23], [1, 3, 21, 22, 23, 24], [1, 3, 4, 5, 21, 22, 23], [1, 3, 4, 21, 22, 23, 28], [1, 3, 21, 22, 23], [1, 3, 21, 22, 23], [1, 6], [1, 6], [1, 6, 49], [6], [1, 6], [1, 6], [1, 6], [6], [2]] = some F11 := by kernel_rfl
theorem fN_or {a b c d : Bool} {j : Nat} (hj : j < 4) (hx : [a, b, c, d][j]? = some true) : IntKind.i64.wrap ((BitVec.ofInt IntKind.i64.bits ((fN a b c d j : Nat) : Int) ||| BitVec.ofInt IntKind.i64.bits (IntKind.i64.wrap (1 * 2 ^ (j : Int).toNat))).toNat : Nat) = ((fN a b c d (j + 1) : Nat) : Int) := by
  rcases (show j = 0 ∨ j = 1 ∨ j = 2 ∨ j = 3 by omega) with rfl | rfl | rfl | rfl <;> revert hx <;> cases a <;> cases b <;> cases c <;> cases d <;> decide +kernel
theorem fN_add {a b c d : Bool} {j : Nat} (hj : j < 4) (hx : [a, b, c, d][j]? = some true) : fN a b c d (j + 1) = fN a b c d j + 2 ^ j := by
  rcases (show j = 0 ∨ j = 1 ∨ j = 2 ∨ j = 3 by omega) with rfl | rfl | rfl | rfl <;> revert hx <;> cases a <;> cases b <;> cases c <;> cases d <;> decide +kernel
theorem fN_no {a b c d : Bool} {j : Nat} (hj : j < 4) (hx : [a, b, c, d][j]? = some false) : fN a b c d (j + 1) = fN a b c d j := by
  rcases (show j = 0 ∨ j = 1 ∨ j = 2 ∨ j = 3 by omega) with rfl | rfl | rfl | rfl <;> revert hx <;> cases a <;> cases b <;> cases c <;> cases d <;> decide +kernel
theorem fN_lt (a b c d : Bool) (j : Nat) : fN a b c d j ≤ 15 := by
  match j with
  | 0 | 1 | 2 | 3 => cases a <;> cases b <;> cases c <;> cases d <;> decide
  | j + 4 => cases a <;> cases b <;> cases c <;> cases d <;> simp [fN, b2n]
theorem pack_256 {i k o t0 t1 : Int} {tu : Bool} {r0 r1 : Int} {ru : Bool} {d0 d1 : Int} {du : Bool} {q0 q1 : Int} {qu : Bool} {f : Int} (hk : 1 ≤ k ∧ k ≤ 6) : ∀ x ∈ packB i k o t0 t1 tu r0 r1 ru d0 d1 du q0 q1 qu f, x < 256 := by
  intro x hx
  unfold packB at hx
  have hf := fN_lt tu ru du qu 4
  simp only [fN] at hf
  simp only [List.mem_append, List.mem_cons, List.not_mem_nil, or_false] at hx
  rcases hx with ((((rfl | rfl) | hx) | hx) | hx)
  · decide
  · omega
  · exact sev_256 _ x hx
  · exact pr_256 _ _ _ x hx
  · split at hx
    · exact sev_256 _ x hx
    · simp only [List.mem_append] at hx
      rcases hx with ((hx | hx) | hx) | hx
      · exact sev_256 _ x hx
      · exact pr_256 _ _ _ x hx
      · exact pr_256 _ _ _ x hx
      · exact pr_256 _ _ _ x hx
set_option maxHeartbeats 4000000 in
theorem pack_ok (i k o t0 t1 : Int) (tu : Bool) (r0 r1 : Int) (ru : Bool) (d0 d1 : Int) (du : Bool) (q0 q1 : Int) (qu : Bool) (f : Int) :
    Pure Tryd.prog 5 [.agg (alC i k o t0 t1 tu r0 r1 ru d0 d1 du q0 q1 qu f)]
      (if alErr i k o t0 t1 tu r0 r1 ru d0 d1 du q0 q1 qu f = 0 then .tup [.sl (packA i k o t0 t1 tu r0 r1 ru d0 d1 du q0 q1 qu f).length (bV (packA i k o t0 t1 tu r0 r1 ru d0 d1 du q0 q1 qu f)) false, .n .i64 0] else .tup [.sl 0 [] false, .n .i64 (alErr i k o t0 t1 tu r0 r1 ru d0 d1 du q0 q1 qu f)]) := by
  refine pure_of_wp of5 (Nat.le_of_ble_eq_true rfl) ?_
  refine CallK.mk _ (check_ok i k o t0 t1 tu r0 r1 ru d0 d1 du q0 q1 qu f) rfl ?_
  by_cases h : alErr i k o t0 t1 tu r0 r1 ru d0 d1 du q0 q1 qu f = 0
  case neg =>
    refine DecK.yes (bne_iff_ne.2 h) ?_
    rw [if_neg h]
    exact endV rfl rfl
  refine DecK.no (bne_eq_false_iff_eq.2 h) ?_
  rw [if_pos h]
  obtain ⟨⟨h1, h2, h3, h4, h5, h6⟩, hk, e1, e2, e3, e4⟩ := alErr_0 h
  have b1 := bErr_0 e1
  have b2 := bErr_0 e2
  have b3 := bErr_0 e3
  have b4 := bErr_0 e4
  refine loop_eq (st' := ⟨[(1, .ref 1 0), (5, .v (.n .i64 ((fN tu ru du qu 0 : Nat) : Int))), (27, .v (.sl 4 ([tu, ru, du, qu].flatMap fun b => [V.b b]) true)), (28, .v (.n .i64 4)), (29, .v (.n .i64 ((0 : Nat) : Int)))], [(1, alC i k o t0 t1 tu r0 r1 ru d0 d1 du q0 q1 qu f)]⟩) rfl ?_
  refine loop_ind (fun (j : Nat) => ⟨[(1, .ref 1 0), (5, .v (.n .i64 ((fN tu ru du qu j : Nat) : Int))), (27, .v (.sl 4 ([tu, ru, du, qu].flatMap fun b => [V.b b]) true)), (28, .v (.n .i64 4)), (29, .v (.n .i64 (j : Int)))], [(1, alC i k o t0 t1 tu r0 r1 ru d0 d1 du q0 q1 qu f)]⟩) (fun j => 4 - j) (fun j => j ≤ 4) 0 (by omega) ?_
  intro j hj ih
  refine DecK.dec (fun g => ?_) (fun g => ?_)
  · have hjlt : j < 4 := by omega
    have wj : IntKind.i64.wrap ((j : Int) + 1) = ((j + 1 : Nat) : Int) := by simp (discharger := omega) only [w64, wu64, wu8, w32, wu32, tdivC, tmodC]; omega
    have hlt : j < [tu, ru, du, qu].length := hjlt
    obtain ⟨x, hx⟩ : ∃ x, [tu, ru, du, qu][j]? = some x := ⟨_, List.getElem?_eq_getElem hlt⟩
    refine OptK.mk _ (ria j rfl hlt) ?_
    refine OptK.mk _ (rld1 (g := fun b : Bool => .b b) hx) ?_
    refine ⟨fun hb => ?_, fun hb => ?_⟩
    · refine OptK.mk _ (op_shl (by omega) (by show (j : Int).toNat ≤ 64; omega)) ?_
      subst hb
      have ef := fN_or hjlt hx
      refine loop_eq ?_ (ih (j + 1) (by omega) (by omega))
      rw [← ef, wj]
    · subst hb
      have ef := fN_no hjlt hx
      refine loop_eq ?_ (ih (j + 1) (by omega) (by omega))
      rw [ef, wj]
  obtain rfl : j = 4 := by omega
  have eb := flag_byte hk tu ru du qu
  generalize hB : k.toNat + 16 * fN tu ru du qu 4 = B at eb
  have l1 := sev_10 (n := i.toNat) (by omega)
  have l2 := pr_len (fun _ => b1) (u := tu)
  have l3 := pr_len (fun _ => b2) (u := ru)
  have l4 := pr_len (fun _ => b3) (u := du)
  have l5 := pr_len (fun _ => b4) (u := qu)
  have l6 := sev_10 (n := o.toNat) (by omega)
  have l7 := sev_10 (n := f.toNat) (by omega)
  have m1 := number_ok [165, B] i.toNat (by omega) (by simp)
  refine MovK.cast (cs' := bV [165, B]) (post' := [.n .u64 (i.toNat : Int)]) (by rw [eb]; rfl) (by rw [u64_of (by omega) (by omega)]) ?_
  refine MovK.mk _ _ m1 ?_
  have m2 := endsTick ([165, B] ++ sev i.toNat) t0 t1 tu (fun _ => b1) (by simp; omega)
  refine MovK.mk _ _ m2 ?_
  have hH : packB i k o t0 t1 tu r0 r1 ru d0 d1 du q0 q1 qu f = [165, B] ++ sev i.toNat ++ pr t0 t1 tu ++ (if k = 6 then sev f.toNat else sev o.toNat ++ pr r0 r1 ru ++ pr d0 d1 du ++ pr q0 q1 qu) := by
    rw [← hB]; rfl
  have hlen : (packB i k o t0 t1 tu r0 r1 ru d0 d1 du q0 q1 qu f).length ≤ 200 := by
    rw [hH]
    split <;> simp <;> omega
  have h256 := pack_256 (i := i) (o := o) (t0 := t0) (t1 := t1) (tu := tu) (r0 := r0) (r1 := r1) (ru := ru) (d0 := d0) (d1 := d1) (du := du) (q0 := q0) (q1 := q1) (qu := qu) (f := f) hk
  have hA : packA i k o t0 t1 tu r0 r1 ru d0 d1 du q0 q1 qu f = packB i k o t0 t1 tu r0 r1 ru d0 d1 du q0 q1 qu f ++ four (crcL (packB i k o t0 t1 tu r0 r1 ru d0 d1 du q0 q1 qu f)) := rfl
  obtain ⟨L, hL⟩ : ∃ L, L = packB i k o t0 t1 tu r0 r1 ru d0 d1 du q0 q1 qu f := ⟨_, rfl⟩
  rw [← hL] at hH hlen h256 hA
  have hc := crcL_lt L
  have x1 : IntKind.u8.wrap ((crcL L : Int).fdiv (2 ^ min (Int.toNat 24) IntKind.u32.bits)) = ((crcL L / 16777216 : Nat) : Int) := by
    show IntKind.u8.wrap ((crcL L : Int).fdiv 16777216) = _
    rw [Int.fdiv_eq_ediv_of_nonneg _ (by decide), wu8 (by omega)]
    omega
  have x2 : IntKind.u8.wrap ((crcL L : Int).fdiv (2 ^ min (Int.toNat 16) IntKind.u32.bits)) = ((crcL L / 65536 % 256 : Nat) : Int) := by
    show IntKind.u8.wrap ((crcL L : Int).fdiv 65536) = _
    rw [Int.fdiv_eq_ediv_of_nonneg _ (by decide), show (crcL L : Int) / 65536 = ((crcL L / 65536 : Nat) : Int) by omega, u8_of]
  have x3 : IntKind.u8.wrap ((crcL L : Int).fdiv (2 ^ min (Int.toNat 8) IntKind.u32.bits)) = ((crcL L / 256 % 256 : Nat) : Int) := by
    show IntKind.u8.wrap ((crcL L : Int).fdiv 256) = _
    rw [Int.fdiv_eq_ediv_of_nonneg _ (by decide), show (crcL L : Int) / 256 = ((crcL L / 256 : Nat) : Int) by omega, u8_of]
  have x4 : IntKind.u8.wrap (crcL L : Int) = ((crcL L % 256 : Nat) : Int) := u8_of
  by_cases h9 : k = 6
  case' pos =>
    refine DecK.yes (beq_iff_eq.2 h9) ?_
    have m3 := number_ok ([165, B] ++ sev i.toNat ++ pr t0 t1 tu) f.toNat (by omega) (by simp; omega)
    rw [if_pos h9] at hH
    rw [← hH] at m3
    refine MovK.cast (cs' := bV ([165, B] ++ sev i.toNat ++ pr t0 t1 tu)) (post' := [.n .u64 (f.toNat : Int)]) rfl (by rw [u64_of (by omega) (by omega)]) ?_
    refine MovK.mk _ _ m3 ?_
  case' neg =>
    refine DecK.no (beq_eq_false_iff_ne.2 h9) ?_
    refine DregK.mk (by kernel_rfl) ?_
    have m3 := number_ok ([165, B] ++ sev i.toNat ++ pr t0 t1 tu) o.toNat (by omega) (by simp; omega)
    have m4 := endsArc ([165, B] ++ sev i.toNat ++ pr t0 t1 tu ++ sev o.toNat) r0 r1 ru (fun _ => b2) (by simp; omega)
    have m5 := endsArc ([165, B] ++ sev i.toNat ++ pr t0 t1 tu ++ sev o.toNat ++ pr r0 r1 ru) d0 d1 du (fun _ => b3) (by simp; omega)
    have m6 := endsQuanta ([165, B] ++ sev i.toNat ++ pr t0 t1 tu ++ sev o.toNat ++ pr r0 r1 ru ++ pr d0 d1 du) q0 q1 qu (fun _ => b4) (by simp; omega)
    rw [if_neg h9, ← List.append_assoc, ← List.append_assoc, ← List.append_assoc] at hH
    rw [← hH] at m6
    refine MovK.cast (cs' := bV ([165, B] ++ sev i.toNat ++ pr t0 t1 tu)) (post' := [.n .u64 (o.toNat : Int)]) rfl (by rw [u64_of (by omega) (by omega)]) ?_
    refine MovK.mk _ _ m3 ?_
    refine MovK.mk _ _ m4 ?_
    refine MovK.mk _ _ m5 ?_
    refine MovK.mk _ _ m6 ?_
  all_goals
    refine CallK.mk _ ((crcSumL false h256 (by omega)).args (congrArg (fun v => [v]) (snapRow' nb_len rfl))) rfl ?_
    refine OptK.mk _ (own_appo (l := L) (l' := four (crcL L)) (f := nb) nb_len rfl (by rw [x1, x2, x3, x4]; rfl) (by rw [bV_one]) (by simp [four]; omega)) ?_
    refine endV rfl ?_
    rw [hA]
    exact congrArg (fun v => V.tup [v, .n .i64 0]) (snapRow' nb_len rfl)
end Go.Proofs.YtljcbmnkjiogmaaDoor.Sv

/- The pose that a mount aims at. No condition. -/
import Derived.Test.YtciigfeecmnghaaRRRRGreatRRQe
import Derived.Test.YtciigfeecmnghaaRRRRGreatRRVa
import Derived.Test.YtciigfeecmnghaaRRRRGreatRRNf
import Derived.Test.YtciigfeecmnghaaRRRRGreatRREa
namespace Go.Proofs.YtciigfeecmnghaaRRRRGreatRR.Sv
open Go Go.RowKit
set_option linter.unusedVariables false
set_option linter.unusedSimpArgs false
set_option maxRecDepth 100000
/-- spyglass/horizon.CheckSite -/
def F8 : Fn1 := ⟨21, .seq (.reg [⟨some 1, none, .box, [.tm 0]⟩, ⟨some 2, none, .mv, [.cn (.n .i64 0)]⟩] [1]) (.seq (.seq (.reg [⟨some 3, none, .fa 0, [.tm 1]⟩, ⟨some 4, none, .ld false 1 false, [.tm 3]⟩, ⟨some 5, none, .po (.bin .lss), [.tm 4, .cn (.n .i64 (-1073741824))]⟩, ⟨some 6, none, .mv, [.tm 5]⟩, ⟨some 7, some (6, false), .fa 0, [.tm 1]⟩, ⟨some 8, some (6, false), .ld false 1 false, [.tm 7]⟩, ⟨some 9, some (6, false), .po (.bin .gtr), [.tm 8, .cn (.n .i64 1073741824)]⟩, ⟨some 10, none, .pick, [.tm 6, .cn (.b true), .tm 9]⟩, ⟨some 11, none, .mv, [.tm 10]⟩, ⟨some 12, some (11, false), .fa 1, [.tm 1]⟩, ⟨some 13, some (11, false), .ld false 1 false, [.tm 12]⟩, ⟨some 14, some (11, false), .po (.bin .lss), [.tm 13, .cn (.n .i64 0)]⟩, ⟨some 15, none, .pick, [.tm 11, .cn (.b true), .tm 14]⟩, ⟨some 16, none, .mv, [.tm 15]⟩, ⟨some 17, some (16, false), .fa 1, [.tm 1]⟩, ⟨some 18, some (16, false), .ld false 1 false, [.tm 17]⟩, ⟨some 19, some (16, false), .po (.bin .geq), [.tm 18, .cn (.n .i64 4294967296)]⟩, ⟨some 20, none, .pick, [.tm 16, .cn (.b true), .tm 19]⟩] [20]) (.cond (.tm 20) (.seq (.reg [⟨some 2, none, .mv, [.cn (.n .i64 4)]⟩] [2]) .ret) .skip)) (.seq (.reg [⟨some 2, none, .mv, [.cn (.n .i64 0)]⟩] [2]) .ret)), [.tm 2]⟩
theorem of8 : Fn1.of Tryz.prog 8 ⟨false, [], false⟩ [[1], [20], [2], [2]] = some F8 := by kernel_rfl
/-- spyglass/horizon.Aim -/
def F30 : Fn1 := ⟨118, .seq (.reg [⟨some 3, none, .box, [.tm 0]⟩, ⟨some 5, none, .box, [.tm 2]⟩, ⟨some 6, none, .alloc [.n .i64 0, .n .i64 0], []⟩, ⟨some 7, none, .mv, [.cn (.n .i64 0)]⟩] [1, 3, 5, 6]) (.seq (.seq (.dreg [⟨some 21, none, .ld true 2 false, [.tm 3]⟩, ⟨some 22, none, .call 8, [.tm 21]⟩, ⟨some 23, none, .ld true 3 false, [.tm 5]⟩, ⟨some 24, none, .call 32, [.tm 23]⟩, ⟨some 25, none, .po (.bsl 2 [.n .i64 0] [(0, 1), (1, 1)]), [.tm 22, .tm 24]⟩, ⟨some 26, none, .call 31, [.tm 25]⟩, ⟨some 8, none, .mv, [.tm 26]⟩] [] [1, 3, 5, 6, 8]) (.seq (.reg [⟨some 27, none, .mv, [.tm 8]⟩, ⟨some 28, none, .po (.bin .neq), [.tm 27, .cn (.n .i64 0)]⟩] [1, 3, 5, 6, 8, 28]) (.cond (.tm 28) (.seq (.reg [⟨some 29, none, .po (.build [.n .i64 0, .n .i64 0] []), []⟩, ⟨some 30, none, .mv, [.tm 8]⟩, ⟨none, none, .st 2, [.tm 6, .tm 29]⟩, ⟨some 7, none, .mv, [.tm 30]⟩] [6, 7]) .ret) .skip))) (.seq (.reg [⟨some 31, none, .ld true 3 false, [.tm 5]⟩, ⟨some 32, none, .call 34, [.tm 31]⟩, ⟨none, none, .st 3, [.tm 5, .tm 32]⟩] [1, 3, 5, 6]) (.seq (.reg [⟨some 9, none, .mv, [.cn (.clo (.func 95) [] [])]⟩] [1, 3, 5, 6, 9]) (.seq (.reg [⟨some 33, none, .mv, [.tm 1]⟩, ⟨some 34, none, .po (.bin .and), [.tm 33, .cn (.n .i64 4294967295)]⟩, ⟨some 35, none, .fa 1, [.tm 3]⟩, ⟨some 36, none, .ld false 1 false, [.tm 35]⟩, ⟨some 37, none, .po (.bin .add), [.tm 34, .tm 36]⟩, ⟨some 10, none, .mv, [.tm 37]⟩] [3, 5, 6, 9, 10]) (.seq (.reg [⟨some 38, none, .mv, [.tm 9]⟩, ⟨some 39, none, .mv, [.tm 10]⟩, ⟨some 40, none, .callD, [.tm 38, .cn (.clo (.func 96) [] []), .tm 39]⟩, ⟨some 41, none, .mv, [.tm 9]⟩, ⟨some 42, none, .mv, [.tm 10]⟩, ⟨some 43, none, .callD, [.tm 41, .cn (.clo (.func 97) [] []), .tm 42]⟩, ⟨some 11, none, .mv, [.tm 40]⟩, ⟨some 12, none, .mv, [.tm 43]⟩] [3, 5, 6, 9, 11, 12]) (.seq (.reg [⟨some 44, none, .fa 0, [.tm 5]⟩, ⟨some 45, none, .ld false 1 false, [.tm 44]⟩, ⟨some 46, none, .mv, [.tm 11]⟩, ⟨some 47, none, .po (.bin .mul), [.tm 45, .tm 46]⟩, ⟨some 48, none, .fa 1, [.tm 5]⟩, ⟨some 49, none, .ld false 1 false, [.tm 48]⟩, ⟨some 50, none, .mv, [.tm 12]⟩, ⟨some 51, none, .po (.bin .mul), [.tm 49, .tm 50]⟩, ⟨some 52, none, .po (.bin .add), [.tm 47, .tm 51]⟩, ⟨some 53, none, .call 98, [.tm 52, .cn (.n .i64 1048576)]⟩, ⟨some 13, none, .mv, [.tm 53]⟩] [3, 5, 6, 9, 11, 12, 13]) (.seq (.reg [⟨some 54, none, .fa 1, [.tm 5]⟩, ⟨some 55, none, .ld false 1 false, [.tm 54]⟩, ⟨some 56, none, .mv, [.tm 11]⟩, ⟨some 57, none, .po (.bin .mul), [.tm 55, .tm 56]⟩, ⟨some 58, none, .fa 0, [.tm 5]⟩, ⟨some 59, none, .ld false 1 false, [.tm 58]⟩, ⟨some 60, none, .mv, [.tm 12]⟩, ⟨some 61, none, .po (.bin .mul), [.tm 59, .tm 60]⟩, ⟨some 62, none, .po (.bin .sub), [.tm 57, .tm 61]⟩, ⟨some 63, none, .call 98, [.tm 62, .cn (.n .i64 1048576)]⟩, ⟨some 14, none, .mv, [.tm 63]⟩] [3, 5, 6, 9, 13, 14]) (.seq (.dreg [⟨some 64, none, .mv, [.tm 9]⟩, ⟨some 65, none, .fa 0, [.tm 3]⟩, ⟨some 66, none, .ld false 1 false, [.tm 65]⟩, ⟨some 67, none, .callD, [.tm 64, .cn (.clo (.func 96) [] []), .tm 66]⟩, ⟨some 68, none, .mv, [.tm 9]⟩, ⟨some 69, none, .fa 0, [.tm 3]⟩, ⟨some 70, none, .ld false 1 false, [.tm 69]⟩, ⟨some 71, none, .callD, [.tm 68, .cn (.clo (.func 97) [] []), .tm 70]⟩, ⟨some 11, none, .mv, [.tm 67]⟩, ⟨some 12, none, .mv, [.tm 71]⟩] [] [5, 6, 11, 12, 13, 14]) (.seq (.reg [⟨some 72, none, .fa 2, [.tm 5]⟩, ⟨some 73, none, .ld false 1 false, [.tm 72]⟩, ⟨some 74, none, .po (.bin .mul), [.tm 73, .cn (.n .i64 1024)]⟩, ⟨some 75, none, .mv, [.tm 12]⟩, ⟨some 76, none, .po (.bin .mul), [.tm 74, .tm 75]⟩, ⟨some 77, none, .mv, [.tm 13]⟩, ⟨some 78, none, .mv, [.tm 11]⟩, ⟨some 79, none, .po (.bin .mul), [.tm 77, .tm 78]⟩, ⟨some 80, none, .po (.bin .add), [.tm 76, .tm 79]⟩, ⟨some 81, none, .call 98, [.tm 80, .cn (.n .i64 1073741824)]⟩, ⟨some 15, none, .mv, [.tm 81]⟩] [5, 6, 11, 12, 13, 14, 15]) (.seq (.reg [⟨some 82, none, .fa 2, [.tm 5]⟩, ⟨some 83, none, .ld false 1 false, [.tm 82]⟩, ⟨some 84, none, .po (.bin .mul), [.tm 83, .cn (.n .i64 1024)]⟩, ⟨some 85, none, .mv, [.tm 11]⟩, ⟨some 86, none, .po (.bin .mul), [.tm 84, .tm 85]⟩, ⟨some 87, none, .mv, [.tm 13]⟩, ⟨some 88, none, .mv, [.tm 12]⟩, ⟨some 89, none, .po (.bin .mul), [.tm 87, .tm 88]⟩, ⟨some 90, none, .po (.bin .sub), [.tm 86, .tm 89]⟩, ⟨some 91, none, .call 98, [.tm 90, .cn (.n .i64 1073741824)]⟩, ⟨some 16, none, .mv, [.tm 91]⟩] [6, 14, 15, 16]) (.seq (.reg [⟨some 93, none, .mv, [.tm 14]⟩, ⟨some 94, none, .mv, [.tm 16]⟩, ⟨some 95, none, .call 99, [.tm 93, .tm 94]⟩, ⟨some 92, none, .mv, [.tm 95]⟩, ⟨some 96, none, .po (.ext 0), [.tm 92]⟩, ⟨some 97, none, .po (.ext 1), [.tm 92]⟩, ⟨some 17, none, .mv, [.tm 96]⟩, ⟨some 18, none, .mv, [.tm 97]⟩] [6, 14, 15, 16, 17]) (.seq (.reg [⟨some 99, none, .mv, [.tm 15]⟩, ⟨some 100, none, .mv, [.tm 16]⟩, ⟨some 101, none, .mv, [.tm 16]⟩, ⟨some 102, none, .po (.bin .mul), [.tm 100, .tm 101]⟩, ⟨some 103, none, .mv, [.tm 14]⟩, ⟨some 104, none, .mv, [.tm 14]⟩, ⟨some 105, none, .po (.bin .mul), [.tm 103, .tm 104]⟩, ⟨some 106, none, .po (.bin .add), [.tm 102, .tm 105]⟩, ⟨some 107, none, .call 100, [.tm 106]⟩, ⟨some 108, none, .call 99, [.tm 99, .tm 107]⟩, ⟨some 98, none, .mv, [.tm 108]⟩, ⟨some 109, none, .po (.ext 0), [.tm 98]⟩, ⟨some 110, none, .po (.ext 1), [.tm 98]⟩, ⟨some 19, none, .mv, [.tm 109]⟩, ⟨some 20, none, .mv, [.tm 110]⟩] [6, 17, 19]) (.seq (.seq (.reg [⟨some 111, none, .mv, [.tm 19]⟩, ⟨some 112, none, .po (.bin .gtr), [.tm 111, .cn (.n .i64 2147483648)]⟩] [6, 17, 19, 112]) (.cond (.tm 112) (.reg [⟨some 113, none, .mv, [.tm 19]⟩, ⟨some 114, none, .po (.bin .sub), [.tm 113, .cn (.n .i64 4294967296)]⟩, ⟨some 19, none, .mv, [.tm 114]⟩] [6, 17, 19]) .skip)) (.seq (.reg [⟨some 115, none, .mv, [.tm 17]⟩, ⟨some 116, none, .mv, [.tm 19]⟩, ⟨some 117, none, .po (.build [.n .i64 0, .n .i64 0] [(0, 1), (1, 1)]), [.tm 115, .tm 116]⟩, ⟨none, none, .st 2, [.tm 6, .tm 117]⟩, ⟨some 7, none, .mv, [.cn (.n .i64 0)]⟩] [6, 7]) .ret)))))))))))))), [.cell 6 true 2, .tm 7]⟩
theorem of30 : Fn1.of Tryz.prog 30 ⟨false, [], false⟩ [[1, 3, 5, 6], [1, 3, 5, 6, 8], [1, 3, 5, 6, 8, 28], [6, 7], [1, 3, 5, 6], [1, 3, 5, 6, 9], [3, 5, 6, 9, 10], [3, 5, 6, 9, 11, 12], [3, 5, 6, 9, 11, 12, 13], [3, 5, 6, 9, 13, 14], [5, 6, 11, 12, 13, 14], [5, 6, 11, 12, 13, 14, 15], [6, 14, 15, 16], [6, 14, 15, 16, 17], [6, 17, 19], [6, 17, 19, 112], [6, 17, 19], [6, 7]] = some F30 := by kernel_rfl
/-- spyglass/horizon.Aim$1 -/
def F95 : Fn1 := ⟨8, .seq (.reg [⟨some 4, none, .mv, [.cn (.n .i64 0)]⟩] [0, 1]) (.seq (.reg [⟨some 5, none, .mv, [.tm 0]⟩, ⟨some 6, none, .mv, [.tm 1]⟩, ⟨some 7, none, .callD, [.tm 5, .tm 6]⟩, ⟨some 4, none, .mv, [.tm 7]⟩] [4]) .ret), [.tm 4]⟩
theorem of95 : Fn1.of Tryz.prog 95 ⟨false, [], false⟩ [[0, 1], [4]] = some F95 := by kernel_rfl
/-- spyglass/spyref1.SiteErr -/
def F9 : Fn1 := ⟨21, .seq (.reg [⟨some 1, none, .box, [.tm 0]⟩, ⟨some 2, none, .mv, [.cn (.n .i64 0)]⟩] [1]) (.seq (.seq (.reg [⟨some 3, none, .fa 0, [.tm 1]⟩, ⟨some 4, none, .ld false 1 false, [.tm 3]⟩, ⟨some 5, none, .po (.bin .gtr), [.tm 4, .cn (.n .i64 1073741824)]⟩, ⟨some 6, none, .mv, [.tm 5]⟩, ⟨some 7, some (6, false), .fa 0, [.tm 1]⟩, ⟨some 8, some (6, false), .ld false 1 false, [.tm 7]⟩, ⟨some 9, some (6, false), .po (.bin .lss), [.tm 8, .cn (.n .i64 (-1073741824))]⟩, ⟨some 10, none, .pick, [.tm 6, .cn (.b true), .tm 9]⟩, ⟨some 11, none, .mv, [.tm 10]⟩, ⟨some 12, some (11, false), .fa 1, [.tm 1]⟩, ⟨some 13, some (11, false), .ld false 1 false, [.tm 12]⟩, ⟨some 14, some (11, false), .po (.bin .lss), [.tm 13, .cn (.n .i64 0)]⟩, ⟨some 15, none, .pick, [.tm 11, .cn (.b true), .tm 14]⟩, ⟨some 16, none, .mv, [.tm 15]⟩, ⟨some 17, some (16, false), .fa 1, [.tm 1]⟩, ⟨some 18, some (16, false), .ld false 1 false, [.tm 17]⟩, ⟨some 19, some (16, false), .po (.bin .geq), [.tm 18, .cn (.n .i64 4294967296)]⟩, ⟨some 20, none, .pick, [.tm 16, .cn (.b true), .tm 19]⟩] [20]) (.cond (.tm 20) (.seq (.reg [⟨some 2, none, .mv, [.cn (.n .i64 4)]⟩] [2]) .ret) .skip)) (.seq (.reg [⟨some 2, none, .mv, [.cn (.n .i64 0)]⟩] [2]) .ret)), [.tm 2]⟩
theorem of9 : Fn1.of Tryz.prog 9 ⟨false, [], false⟩ [[1], [20], [2], [2]] = some F9 := by kernel_rfl
/-- spyglass/spylaw1.horizons -/
def F7 : Fn1 := ⟨16, .seq (.reg [⟨some 0, none, .mv, [.cn (.b false)]⟩] []) (.seq (.reg [⟨some 4, none, .po (.build [.n .i64 0, .n .i64 0] [(0, 1)]), [.cn (.n .i64 536870912)]⟩, ⟨some 5, none, .po (.build [.n .i64 0, .n .i64 0, .n .i64 0] [(2, 1)]), [.cn (.n .i64 1)]⟩, ⟨some 6, none, .call 30, [.tm 4, .cn (.n .i64 0), .tm 5]⟩, ⟨some 3, none, .mv, [.tm 6]⟩, ⟨some 7, none, .po (.ext 0), [.tm 3]⟩, ⟨some 8, none, .po (.ext 1), [.tm 3]⟩, ⟨some 1, none, .alloc [.n .i64 0, .n .i64 0], []⟩, ⟨none, none, .st 2, [.tm 1, .tm 7]⟩, ⟨some 2, none, .mv, [.tm 8]⟩] [1, 2]) (.seq (.reg [⟨some 9, none, .mv, [.tm 2]⟩, ⟨some 10, none, .po (.bin .eql), [.tm 9, .cn (.n .i64 0)]⟩, ⟨some 11, none, .mv, [.tm 10]⟩, ⟨some 12, some (11, true), .ld true 2 false, [.tm 1]⟩, ⟨some 13, some (11, true), .po (.build [.n .i64 0, .n .i64 0] [(1, 1)]), [.cn (.n .i64 536870912)]⟩, ⟨some 14, some (11, true), .po (.veq false [(0, .n), (1, .n)]), [.tm 12, .tm 13]⟩, ⟨some 15, none, .pick, [.tm 11, .tm 14, .cn (.b false)]⟩, ⟨some 0, none, .mv, [.tm 15]⟩] [0]) .ret)), [.tm 0]⟩
theorem of7 : Fn1.of Tryz.prog 7 ⟨false, [], false⟩ [[], [1, 2], [0]] = some F7 := by kernel_rfl
/-- In each octant one of sine and cosine is small. -/
theorem quar_low {t : Int} (h : 0 ≤ t ∧ t ≤ 536870912) : 0 ≤ quarF t ∧ quarF t ≤ 843314858 := by
  have h0 := quarF_in (t := t) (by omega)
  refine ⟨h0.1, ?_⟩
  unfold quarF
  rw [if_neg (by omega)]
  have hx := quarX_in (t := t) (by omega)
  have hu := tms_le (a := quarX t) (b := quarX t) hx.1 (by omega)
  have hs := serF_in (u := tms (quarX t) (quarX t)) (by omega) (l := lows) (s := 1152921504606846976) (by decide) (by decide)
  have := tms_le (a := quarX t) (b := serF (tms (quarX t) (quarX t)) lows 1152921504606846976) hx.1 hs
  omega
theorem sq_of {a b c : Int} (h : (a = c ∨ a = -c) ∧ 0 ≤ c ∧ c ≤ b) : a * a ≤ b * b := (mulI (a := a) (b := a) (A := b) (B := b) (by omega) (by omega)).2
theorem quar_sq {t : Int} (h : 0 ≤ t ∧ t ≤ 1073741824) {a b : Int} (ha : a = quarF t ∨ a = -quarF t) (hb : b = quarF (1073741824 - t) ∨ b = -quarF (1073741824 - t)) : a * a + b * b ≤ 1864101454335867140 := by
  have h1 := quarF_in h
  have h2 := quarF_in (t := 1073741824 - t) (by omega)
  have s1 := sq_of ⟨ha, h1⟩
  have s2 := sq_of ⟨hb, h2⟩
  by_cases ht : t ≤ 536870912
  · have := sq_of ⟨ha, quar_low (t := t) (by omega)⟩
    omega
  · have := sq_of ⟨hb, quar_low (t := 1073741824 - t) (by omega)⟩
    omega
theorem sin_sq (a : Int) : sinF (a + 1073741824) * sinF (a + 1073741824) + sinF a * sinF a ≤ 1864101454335867140 := by
  have hr : 0 ≤ a % 4294967296 ∧ a % 4294967296 < 4294967296 := by omega
  rw [Int.add_comm]
  unfold sinF
  simp only
  by_cases h0 : a % 4294967296 < 3221225472
  · rw [show (a + 1073741824) % 4294967296 = a % 4294967296 + 1073741824 by omega]
    generalize a % 4294967296 = r at *
    by_cases h1 : r ≤ 1073741824
    · rw [if_pos h1]
      refine quar_sq (t := r) (by omega) (.inl rfl) ?_
      by_cases h2 : r = 0
      · subst h2; rw [if_pos (by decide)]; exact .inl rfl
      · rw [if_neg (by omega), if_pos (by omega)]; exact .inl (by congr 1; omega)
    · rw [if_neg h1]
      by_cases h2 : r ≤ 2147483648
      · rw [if_pos h2, if_neg (by omega), if_neg (by omega), if_pos (by omega)]
        refine quar_sq (t := 2147483648 - r) (by omega) (.inl rfl) (.inr (by congr 2; omega))
      · rw [if_neg h2, if_pos (by omega), if_neg (by omega), if_neg (by omega), if_neg (by omega)]
        refine quar_sq (t := r - 2147483648) (by omega) (.inr rfl) (.inr (by congr 2; omega))
  · rw [show (a + 1073741824) % 4294967296 = a % 4294967296 - 3221225472 by omega]
    generalize a % 4294967296 = r at *
    rw [if_neg (by omega), if_neg (by omega), if_pos (show r - 3221225472 ≤ 1073741824 by omega)]
    by_cases h3 : r ≤ 3221225472
    · rw [if_pos h3]
      refine quar_sq (t := r - 2147483648) (by omega) (.inr rfl) (.inl ?_)
      rw [show r = 3221225472 by omega]; rfl
    · rw [if_neg h3]
      refine quar_sq (t := 4294967296 - r) (by omega) (.inr rfl) (.inl (by congr 1; omega))
def aimOut (x y c d : Int) : Int := rnd (x * c + y * d) 1048576
def aimEast (x y c d : Int) : Int := rnd (y * c - x * d) 1048576
def aimUp (z o c d : Int) : Int := rnd (z * 1024 * d + o * c) 1073741824
def aimNorth (z o c d : Int) : Int := rnd (z * 1024 * c - o * d) 1073741824
theorem rnd_20 (v : Int) : v - 524288 ≤ 1048576 * rnd v 1048576 ∧ 1048576 * rnd v 1048576 ≤ v + 524288 := by unfold rnd; split <;> omega
theorem rnd_30' (v : Int) : v - 536870912 ≤ 1073741824 * rnd v 1073741824 ∧ 1073741824 * rnd v 1073741824 ≤ v + 536870912 := by unfold rnd; split <;> omega
/-- The square of a rounded quotient. -/
theorem rnd_sq {v r A h B : Int} (h1 : v - h ≤ A * r ∧ A * r ≤ v + h) (h0 : 0 ≤ h) (hB : -B ≤ v ∧ v ≤ B) : A * A * (r * r) ≤ v * v + 2 * h * B + h * h := by
  obtain ⟨p, hp⟩ : ∃ p : Int, p = v.natAbs := ⟨_, rfl⟩
  have h2 := (mulI (a := A * r) (b := A * r) (A := p + h) (B := p + h) (by omega) (by omega)).2
  have h3 : p * p = v * v := by rw [hp]; exact Int.natAbs_mul_self' v
  have h4 : h * p ≤ h * B := Int.mul_le_mul_of_nonneg_left (by omega) h0
  grind
theorem aim_fits {x y z c d c' d' : Int} (hv : vecErr x y z = 0) (hc : -1073741824 ≤ c ∧ c ≤ 1073741824) (hd : -1073741824 ≤ d ∧ d ≤ 1073741824) (hc' : -1073741824 ≤ c' ∧ c' ≤ 1073741824) (hd' : -1073741824 ≤ d' ∧ d' ≤ 1073741824)
    (hK : c * c + d * d ≤ 1864101454335867140) (hK' : c' * c' + d' * d' ≤ 1864101454335867140) :
    aimNorth z (aimOut x y c d) c' d' * aimNorth z (aimOut x y c d) c' d' + aimEast x y c d * aimEast x y c d ≤ 9223372036854775807 ∧ (-4294967296 ≤ aimOut x y c d ∧ aimOut x y c d ≤ 4294967296) ∧ (-4294967296 ≤ aimEast x y c d ∧ aimEast x y c d ≤ 4294967296) ∧
      (-9223372036854775808 ≤ aimNorth z (aimOut x y c d) c' d' ∧ aimNorth z (aimOut x y c d) c' d' ≤ 9223372036854775807) ∧ (-9223372036854775808 ≤ aimUp z (aimOut x y c d) c' d' ∧ aimUp z (aimOut x y c d) c' d' ≤ 9223372036854775807) := by
  have hb := vecErr_in hv
  have m1 := mulI (a := x) (A := 1048576) (by omega) hc
  have m2 := mulI (a := y) (A := 1048576) (by omega) hd
  have m3 := mulI (a := y) (A := 1048576) (by omega) hc
  have m4 := mulI (a := x) (A := 1048576) (by omega) hd
  have mx := mulI (a := x) (b := x) (A := 1048576) (B := 1048576) (by omega) (by omega)
  have my := mulI (a := y) (b := y) (A := 1048576) (B := 1048576) (by omega) (by omega)
  have mz := mulI (a := z * 1024) (b := z * 1024) (A := 1073741824) (B := 1073741824) (by omega) (by omega)
  have r1 := rnd_20 (x * c + y * d)
  have r2 := rnd_20 (y * c - x * d)
  have q1 := rnd_sq r1 (by decide) (B := 2251799813685248) (by omega)
  have q2 := rnd_sq r2 (by decide) (B := 2251799813685248) (by omega)
  have e1 : (x * c + y * d) * (x * c + y * d) + (y * c - x * d) * (y * c - x * d) = (x * x + y * y) * (c * c + d * d) := by grind
  have e2 : (x * x + y * y) * (c * c + d * d) ≤ 2199023255552 * 1864101454335867140 := Int.mul_le_mul (by omega) hK (by have := sq0 c; have := sq0 d; omega) (by decide)
  obtain ⟨o, ho⟩ : ∃ o, o = aimOut x y c d := ⟨_, rfl⟩
  obtain ⟨e, he⟩ : ∃ e, e = aimEast x y c d := ⟨_, rfl⟩
  rw [show rnd (x * c + y * d) 1048576 = o from ho.symm] at r1 q1
  rw [show rnd (y * c - x * d) 1048576 = e from he.symm] at r2 q2
  rw [← ho, ← he]
  have n1 := mulI (a := z * 1024) (A := 1073741824) (by omega) hc'
  have n2 := mulI (a := o) (A := 2147483649) (by omega) hd'
  have n3 := mulI (a := z * 1024) (A := 1073741824) (by omega) hd'
  have n4 := mulI (a := o) (A := 2147483649) (by omega) hc'
  have r3 := rnd_30' (z * 1024 * c' - o * d')
  have r4 := rnd_30' (z * 1024 * d' + o * c')
  have q3 := rnd_sq r3 (by decide) (B := 4611686018427387904) (by omega)
  have e3 : (z * 1024 * c' - o * d') * (z * 1024 * c' - o * d') + (z * 1024 * d' + o * c') * (z * 1024 * d' + o * c') = (z * 1024 * (z * 1024) + o * o) * (c' * c' + d' * d') := by grind
  have e4 : (z * 1024 * (z * 1024) + o * o) * (c' * c' + d' * d') ≤ (1152921504606846976 + o * o) * 1864101454335867140 := Int.mul_le_mul (by omega) hK' (by have := sq0 c'; have := sq0 d'; omega) (by have := sq0 o; omega)
  have e5 := sq0 (z * 1024 * d' + o * c')
  obtain ⟨n, hn⟩ : ∃ n, n = aimNorth z o c' d' := ⟨_, rfl⟩
  obtain ⟨u, hu⟩ : ∃ u, u = aimUp z o c' d' := ⟨_, rfl⟩
  rw [show rnd (z * 1024 * c' - o * d') 1073741824 = n from hn.symm] at r3 q3
  rw [show rnd (z * 1024 * d' + o * c') 1073741824 = u from hu.symm] at r4
  rw [← hn, ← hu]
  have s1 := sq0 o
  have s2 := sq0 e
  generalize o * o = O at *
  generalize e * e = E at *
  generalize n * n = M at *
  generalize (z * 1024 * c' - o * d') * (z * 1024 * c' - o * d') = N at *
  generalize (z * 1024 * d' + o * c') * (z * 1024 * d' + o * c') = N' at *
  generalize (x * c + y * d) * (x * c + y * d) = P at *
  generalize (y * c - x * d) * (y * c - x * d) = Q at *
  generalize (x * x + y * y) * (c * c + d * d) = R at *
  generalize (z * 1024 * (z * 1024) + O) * (c' * c' + d' * d') = R' at *
  refine ⟨by omega, by omega, by omega, by omega, by omega⟩
end Go.Proofs.YtciigfeecmnghaaRRRRGreatRR.Sv

/- Uniform time to civil time, and the statement on it at each input. No condition. -/
import Derived.Test.YtkmlnmbhlkhgpaaTf
namespace Go.Proofs.Ytkmlnmbhlkhgpaa.Sv
open Go Go.RowKit
set_option linter.unusedVariables false
set_option linter.unusedSimpArgs false
set_option maxRecDepth 100000
/-- live: [0, 4, 7, 8] -/
def L26_0 : SC := .seq (.seq (.reg [⟨some 29, none, .mv, [.tm 8]⟩, ⟨some 30, none, .mv, [.tm 7]⟩, ⟨some 31, none, .callD, [.tm 29, .tm 30]⟩, ⟨some 32, none, .mv, [.tm 0]⟩, ⟨some 33, none, .po (.bin .gtr), [.tm 31, .tm 32]⟩] [0, 4, 7, 8, 33]) (.cond (.tm 33) .skip (.exit 0))) (.block 1 (.reg [⟨some 34, none, .mv, [.tm 7]⟩, ⟨some 35, none, .po (.bin .sub), [.tm 34, .cn (.n .i64 1)]⟩, ⟨some 7, none, .mv, [.tm 35]⟩] [0, 4, 7, 8]))
/-- spyglass/scale.ToCivil -/
def F26 : Fn1 := ⟨75, .seq (.reg [⟨some 3, none, .box, [.tm 1]⟩, ⟨some 4, none, .alloc [.n .i64 0, .n .i64 0, .n .i64 0, .n .i64 0, .n .i64 0, .n .i64 0, .n .i64 0], []⟩, ⟨some 5, none, .mv, [.cn (.n .i64 0)]⟩] [0, 3, 4]) (.seq (.seq (.reg [⟨some 12, none, .mv, [.tm 0]⟩, ⟨some 13, none, .po (.bin .lss), [.tm 12, .cn (.n .i64 (-17592186044416))]⟩, ⟨some 14, none, .mv, [.tm 13]⟩, ⟨some 15, some (14, false), .mv, [.tm 0]⟩, ⟨some 16, some (14, false), .po (.bin .gtr), [.tm 15, .cn (.n .i64 17592186044416)]⟩, ⟨some 17, none, .pick, [.tm 14, .cn (.b true), .tm 16]⟩] [0, 3, 4, 17]) (.cond (.tm 17) (.seq (.reg [⟨some 18, none, .po (.build [.n .i64 0, .n .i64 0, .n .i64 0, .n .i64 0, .n .i64 0, .n .i64 0, .n .i64 0] []), []⟩, ⟨none, none, .st 7, [.tm 4, .tm 18]⟩, ⟨some 5, none, .mv, [.cn (.n .i64 4)]⟩] [4, 5]) .ret) .skip)) (.seq (.seq (.reg [⟨some 19, none, .ld false 1, [.tm 3]⟩, ⟨some 20, none, .call 18, [.tm 19]⟩, ⟨some 6, none, .mv, [.tm 20]⟩] [0, 3, 4, 6]) (.seq (.reg [⟨some 21, none, .mv, [.tm 6]⟩, ⟨some 22, none, .po (.bin .neq), [.tm 21, .cn (.n .i64 0)]⟩] [0, 3, 4, 6, 22]) (.cond (.tm 22) (.seq (.reg [⟨some 23, none, .po (.build [.n .i64 0, .n .i64 0, .n .i64 0, .n .i64 0, .n .i64 0, .n .i64 0, .n .i64 0] []), []⟩, ⟨some 24, none, .mv, [.tm 6]⟩, ⟨none, none, .st 7, [.tm 4, .tm 23]⟩, ⟨some 5, none, .mv, [.tm 24]⟩] [4, 5]) .ret) .skip))) (.seq (.reg [⟨some 25, none, .mv, [.tm 0]⟩, ⟨some 26, none, .po (.bin .quo), [.tm 25, .cn (.n .i64 86400000)]⟩, ⟨some 27, none, .po (.bin .add), [.tm 26, .cn (.n .i64 2)]⟩, ⟨some 7, none, .mv, [.tm 27]⟩] [0, 3, 4, 7]) (.seq (.reg [⟨some 28, none, .po (.mkF (.func 86) 0), [.tm 3]⟩, ⟨some 8, none, .mv, [.tm 28]⟩] [0, 4, 7, 8]) (.seq (.block 0 (.loop [0, 4, 7, 8] L26_0)) (.seq (.reg [⟨some 36, none, .mv, [.tm 0]⟩, ⟨some 37, none, .mv, [.tm 8]⟩, ⟨some 38, none, .mv, [.tm 7]⟩, ⟨some 39, none, .callD, [.tm 37, .tm 38]⟩, ⟨some 40, none, .po (.bin .sub), [.tm 36, .tm 39]⟩, ⟨some 9, none, .mv, [.tm 40]⟩] [4, 7, 9]) (.seq (.reg [⟨some 41, none, .mv, [.tm 9]⟩, ⟨some 42, none, .po (.bin .quo), [.tm 41, .cn (.n .i64 1000)]⟩, ⟨some 10, none, .mv, [.tm 42]⟩] [4, 7, 9, 10]) (.seq (.reg [⟨some 43, none, .mv, [.tm 10]⟩, ⟨some 44, none, .po (.bin .quo), [.tm 43, .cn (.n .i64 3600)]⟩, ⟨some 45, none, .po .mn, [.tm 44, .cn (.n .i64 23)]⟩, ⟨some 46, none, .mv, [.tm 9]⟩, ⟨some 47, none, .po (.bin .rem), [.tm 46, .cn (.n .i64 1000)]⟩, ⟨some 48, none, .po (.build [.n .i64 0, .n .i64 0, .n .i64 0, .n .i64 0, .n .i64 0, .n .i64 0, .n .i64 0] [(3, 1), (6, 1)]), [.tm 45, .tm 47]⟩, ⟨some 11, none, .alloc [.n .i64 0, .n .i64 0, .n .i64 0, .n .i64 0, .n .i64 0, .n .i64 0, .n .i64 0], []⟩, ⟨none, none, .st 7, [.tm 11, .tm 48]⟩] [4, 7, 10, 11]) (.seq (.reg [⟨some 49, none, .mv, [.tm 10]⟩, ⟨some 50, none, .fa 3, [.tm 11]⟩, ⟨some 51, none, .ld false 1, [.tm 50]⟩, ⟨some 52, none, .po (.bin .mul), [.tm 51, .cn (.n .i64 3600)]⟩, ⟨some 53, none, .po (.bin .sub), [.tm 49, .tm 52]⟩, ⟨some 10, none, .mv, [.tm 53]⟩] [4, 7, 10, 11]) (.seq (.reg [⟨some 54, none, .mv, [.tm 10]⟩, ⟨some 55, none, .po (.bin .quo), [.tm 54, .cn (.n .i64 60)]⟩, ⟨some 56, none, .po .mn, [.tm 55, .cn (.n .i64 59)]⟩, ⟨some 57, none, .fa 4, [.tm 11]⟩, ⟨none, none, .st 1, [.tm 57, .tm 56]⟩] [4, 7, 10, 11]) (.seq (.reg [⟨some 58, none, .mv, [.tm 10]⟩, ⟨some 59, none, .fa 4, [.tm 11]⟩, ⟨some 60, none, .ld false 1, [.tm 59]⟩, ⟨some 61, none, .po (.bin .mul), [.tm 60, .cn (.n .i64 60)]⟩, ⟨some 62, none, .po (.bin .sub), [.tm 58, .tm 61]⟩, ⟨some 63, none, .fa 5, [.tm 11]⟩, ⟨none, none, .st 1, [.tm 63, .tm 62]⟩] [4, 7, 11]) (.seq (.reg [⟨some 65, none, .mv, [.tm 7]⟩, ⟨some 66, none, .call 24, [.tm 65]⟩, ⟨some 64, none, .mv, [.tm 66]⟩, ⟨some 67, none, .po (.ext 0), [.tm 64]⟩, ⟨some 68, none, .po (.ext 1), [.tm 64]⟩, ⟨some 69, none, .po (.ext 2), [.tm 64]⟩, ⟨some 70, none, .po (.ext 3), [.tm 64]⟩, ⟨some 71, none, .fa 0, [.tm 11]⟩, ⟨none, none, .st 1, [.tm 71, .tm 67]⟩, ⟨some 72, none, .fa 1, [.tm 11]⟩, ⟨none, none, .st 1, [.tm 72, .tm 68]⟩, ⟨some 73, none, .fa 2, [.tm 11]⟩, ⟨none, none, .st 1, [.tm 73, .tm 69]⟩] [4, 11]) (.seq (.reg [⟨some 74, none, .ld true 7, [.tm 11]⟩, ⟨none, none, .st 7, [.tm 4, .tm 74]⟩, ⟨some 5, none, .mv, [.cn (.n .i64 0)]⟩] [4, 5]) .ret))))))))))))), [.cell 4 true 7, .tm 5]⟩
theorem of26 : Fn1.of Try.prog 26 false [[0, 3, 4], [0, 3, 4, 17], [4, 5], [0, 3, 4, 6], [0, 3, 4, 6, 22], [4, 5], [0, 3, 4, 7], [0, 4, 7, 8], [0, 4, 7, 8], [0, 4, 7, 8, 33], [0, 4, 7, 8], [4, 7, 9], [4, 7, 9, 10], [4, 7, 10, 11], [4, 7, 10, 11], [4, 7, 10, 11], [4, 7, 11], [4, 11], [4, 5]] = some F26 := by kernel_rfl
/-- spyglass/scale.ToCivil$1 -/
def F86 : Fn1 := ⟨17, .seq (.reg [⟨some 3, none, .mv, [.cn (.n .i64 0)]⟩] [0, 1]) (.seq (.reg [⟨some 7, none, .ld false 1, [.tm 1]⟩, ⟨some 8, none, .mv, [.tm 0]⟩, ⟨some 9, none, .call 79, [.tm 7, .tm 8]⟩, ⟨some 6, none, .mv, [.tm 9]⟩, ⟨some 10, none, .po (.ext 0), [.tm 6]⟩, ⟨some 11, none, .po (.ext 1), [.tm 6]⟩, ⟨some 4, none, .mv, [.tm 10]⟩, ⟨some 5, none, .mv, [.tm 11]⟩] [0, 4]) (.seq (.reg [⟨some 12, none, .mv, [.tm 0]⟩, ⟨some 13, none, .po (.bin .mul), [.tm 12, .cn (.n .i64 86400000)]⟩, ⟨some 14, none, .mv, [.tm 4]⟩, ⟨some 15, none, .po (.bin .mul), [.tm 14, .cn (.n .i64 1000)]⟩, ⟨some 16, none, .po (.bin .add), [.tm 13, .tm 15]⟩, ⟨some 3, none, .mv, [.tm 16]⟩] [3]) .ret)), [.tm 3]⟩
theorem of86 : Fn1.of Try.prog 86 false [[0, 1], [0, 4], [3]] = some F86 := by kernel_rfl
/-- live: [0, 1, 4, 7] -/
def L27_0 : SC := .seq (.seq (.reg [⟨some 27, none, .mv, [.tm 7]⟩, ⟨some 28, none, .po (.bin .add), [.tm 27, .cn (.n .i64 1)]⟩, ⟨some 29, none, .mv, [.tm 1]⟩, ⟨some 30, none, .call 80, [.tm 28, .tm 29]⟩, ⟨some 31, none, .mv, [.tm 0]⟩, ⟨some 32, none, .po (.bin .leq), [.tm 30, .tm 31]⟩] [0, 1, 4, 7, 32]) (.cond (.tm 32) .skip (.exit 0))) (.block 1 (.reg [⟨some 33, none, .mv, [.tm 7]⟩, ⟨some 34, none, .po (.bin .add), [.tm 33, .cn (.n .i64 1)]⟩, ⟨some 7, none, .mv, [.tm 34]⟩] [0, 1, 4, 7]))
/-- spyglass/spyref1.CivilOf -/
def F27 : Fn1 := ⟨73, .seq (.reg [⟨some 4, none, .alloc [.n .i64 0, .n .i64 0, .n .i64 0, .n .i64 0, .n .i64 0, .n .i64 0, .n .i64 0], []⟩, ⟨some 5, none, .mv, [.cn (.n .i64 0)]⟩] [0, 1, 4]) (.seq (.seq (.reg [⟨some 11, none, .mv, [.tm 0]⟩, ⟨some 12, none, .po (.bin .gtr), [.tm 11, .cn (.n .i64 17592186044416)]⟩, ⟨some 13, none, .mv, [.tm 12]⟩, ⟨some 14, some (13, false), .mv, [.tm 0]⟩, ⟨some 15, some (13, false), .po (.bin .lss), [.tm 14, .cn (.n .i64 (-17592186044416))]⟩, ⟨some 16, none, .pick, [.tm 13, .cn (.b true), .tm 15]⟩] [0, 1, 4, 16]) (.cond (.tm 16) (.seq (.reg [⟨some 17, none, .po (.build [.n .i64 0, .n .i64 0, .n .i64 0, .n .i64 0, .n .i64 0, .n .i64 0, .n .i64 0] []), []⟩, ⟨none, none, .st 7, [.tm 4, .tm 17]⟩, ⟨some 5, none, .mv, [.cn (.n .i64 4)]⟩] [4, 5]) .ret) .skip)) (.seq (.seq (.reg [⟨some 18, none, .mv, [.tm 1]⟩, ⟨some 19, none, .call 19, [.tm 18]⟩, ⟨some 6, none, .mv, [.tm 19]⟩] [0, 1, 4, 6]) (.seq (.reg [⟨some 20, none, .mv, [.tm 6]⟩, ⟨some 21, none, .po (.bin .neq), [.tm 20, .cn (.n .i64 0)]⟩] [0, 1, 4, 6, 21]) (.cond (.tm 21) (.seq (.reg [⟨some 22, none, .po (.build [.n .i64 0, .n .i64 0, .n .i64 0, .n .i64 0, .n .i64 0, .n .i64 0, .n .i64 0] []), []⟩, ⟨some 23, none, .mv, [.tm 6]⟩, ⟨none, none, .st 7, [.tm 4, .tm 22]⟩, ⟨some 5, none, .mv, [.tm 23]⟩] [4, 5]) .ret) .skip))) (.seq (.reg [⟨some 24, none, .mv, [.tm 0]⟩, ⟨some 25, none, .po (.bin .quo), [.tm 24, .cn (.n .i64 86400000)]⟩, ⟨some 26, none, .po (.bin .sub), [.tm 25, .cn (.n .i64 2)]⟩, ⟨some 7, none, .mv, [.tm 26]⟩] [0, 1, 4, 7]) (.seq (.block 0 (.loop [0, 1, 4, 7] L27_0)) (.seq (.reg [⟨some 35, none, .po (.build [.n .i64 0, .n .i64 0, .n .i64 0, .n .i64 0, .n .i64 0, .n .i64 0, .n .i64 0] []), []⟩, ⟨some 8, none, .alloc [.n .i64 0, .n .i64 0, .n .i64 0, .n .i64 0, .n .i64 0, .n .i64 0, .n .i64 0], []⟩, ⟨none, none, .st 7, [.tm 8, .tm 35]⟩] [0, 1, 4, 7, 8]) (.seq (.reg [⟨some 37, none, .mv, [.tm 7]⟩, ⟨some 38, none, .call 25, [.tm 37]⟩, ⟨some 36, none, .mv, [.tm 38]⟩, ⟨some 39, none, .po (.ext 0), [.tm 36]⟩, ⟨some 40, none, .po (.ext 1), [.tm 36]⟩, ⟨some 41, none, .po (.ext 2), [.tm 36]⟩, ⟨some 42, none, .po (.ext 3), [.tm 36]⟩, ⟨some 43, none, .fa 0, [.tm 8]⟩, ⟨none, none, .st 1, [.tm 43, .tm 39]⟩, ⟨some 44, none, .fa 1, [.tm 8]⟩, ⟨none, none, .st 1, [.tm 44, .tm 40]⟩, ⟨some 45, none, .fa 2, [.tm 8]⟩, ⟨none, none, .st 1, [.tm 45, .tm 41]⟩] [0, 1, 4, 7, 8]) (.seq (.reg [⟨some 46, none, .mv, [.tm 0]⟩, ⟨some 47, none, .mv, [.tm 7]⟩, ⟨some 48, none, .mv, [.tm 1]⟩, ⟨some 49, none, .call 80, [.tm 47, .tm 48]⟩, ⟨some 50, none, .po (.bin .sub), [.tm 46, .tm 49]⟩, ⟨some 9, none, .mv, [.tm 50]⟩] [4, 8, 9]) (.seq (.reg [⟨some 51, none, .mv, [.tm 9]⟩, ⟨some 52, none, .po (.bin .quo), [.tm 51, .cn (.n .i64 1000)]⟩, ⟨some 10, none, .mv, [.tm 52]⟩] [4, 8, 9, 10]) (.seq (.reg [⟨some 53, none, .mv, [.tm 9]⟩, ⟨some 54, none, .po (.bin .rem), [.tm 53, .cn (.n .i64 1000)]⟩, ⟨some 55, none, .fa 6, [.tm 8]⟩, ⟨none, none, .st 1, [.tm 55, .tm 54]⟩] [4, 8, 10]) (.seq (.seq (.reg [⟨some 56, none, .mv, [.tm 10]⟩, ⟨some 57, none, .po (.bin .eql), [.tm 56, .cn (.n .i64 86400)]⟩] [4, 8, 10, 57]) (.cond (.tm 57) (.seq (.reg [⟨some 58, none, .fa 3, [.tm 8]⟩, ⟨none, none, .st 1, [.tm 58, .cn (.n .i64 23)]⟩, ⟨some 59, none, .fa 4, [.tm 8]⟩, ⟨none, none, .st 1, [.tm 59, .cn (.n .i64 59)]⟩, ⟨some 60, none, .fa 5, [.tm 8]⟩, ⟨none, none, .st 1, [.tm 60, .cn (.n .i64 60)]⟩] [4, 8]) (.seq (.reg [⟨some 61, none, .ld true 7, [.tm 8]⟩, ⟨none, none, .st 7, [.tm 4, .tm 61]⟩, ⟨some 5, none, .mv, [.cn (.n .i64 0)]⟩] [4, 5]) .ret)) .skip)) (.seq (.reg [⟨some 62, none, .mv, [.tm 10]⟩, ⟨some 63, none, .po (.bin .quo), [.tm 62, .cn (.n .i64 3600)]⟩, ⟨some 64, none, .mv, [.tm 10]⟩, ⟨some 65, none, .po (.bin .quo), [.tm 64, .cn (.n .i64 60)]⟩, ⟨some 66, none, .po (.bin .rem), [.tm 65, .cn (.n .i64 60)]⟩, ⟨some 67, none, .mv, [.tm 10]⟩, ⟨some 68, none, .po (.bin .rem), [.tm 67, .cn (.n .i64 60)]⟩, ⟨some 69, none, .fa 3, [.tm 8]⟩, ⟨none, none, .st 1, [.tm 69, .tm 63]⟩, ⟨some 70, none, .fa 4, [.tm 8]⟩, ⟨none, none, .st 1, [.tm 70, .tm 66]⟩, ⟨some 71, none, .fa 5, [.tm 8]⟩, ⟨none, none, .st 1, [.tm 71, .tm 68]⟩] [4, 8]) (.seq (.reg [⟨some 72, none, .ld true 7, [.tm 8]⟩, ⟨none, none, .st 7, [.tm 4, .tm 72]⟩, ⟨some 5, none, .mv, [.cn (.n .i64 0)]⟩] [4, 5]) .ret)))))))))))), [.cell 4 true 7, .tm 5]⟩
theorem of27 : Fn1.of Try.prog 27 false [[0, 1, 4], [0, 1, 4, 16], [4, 5], [0, 1, 4, 6], [0, 1, 4, 6, 21], [4, 5], [0, 1, 4, 7], [0, 1, 4, 7], [0, 1, 4, 7, 32], [0, 1, 4, 7], [0, 1, 4, 7, 8], [0, 1, 4, 7, 8], [4, 8, 9], [4, 8, 9, 10], [4, 8, 10], [4, 8, 10, 57], [4, 8], [4, 5], [4, 8], [4, 5]] = some F27 := by kernel_rfl

def startS (l : List LeapT) (day : Int) : Int := 86400000 * day + 1000 * sumB day l
theorem start_lt {l : List LeapT} (h : leapsErr l = 0) {a b : Int} (hab : a < b) : startS l a + 80000000 ≤ startS l b := by
  obtain ⟨h1, h2⟩ := leapsErr_zero h
  have ha := sumB_le a h2
  have hb := sumB_le b h2
  unfold startS; omega
theorem start_near {l : List LeapT} (h : leapsErr l = 0) (a : Int) : 86400000 * a - 64000 ≤ startS l a ∧ startS l a ≤ 86400000 * a + 64000 ∧ startS l (a + 1) ≤ startS l a + 86401000 := by
  obtain ⟨h1, h2⟩ := leapsErr_zero h
  have ha := sumB_le a h2
  have hb := sumB_succ a l
  unfold startS; omega
theorem start_ok {l : List LeapT} (h : leapsErr l = 0) (day : Int) (hd : -10000000 ≤ day ∧ day ≤ 10000000) : Pure Try.prog 86 [.n .i64 day, .ip [leapsV l]] (.n .i64 (startS l day)) := by
  obtain ⟨h1, h2⟩ := leapsErr_zero h
  have ha := sumB_le day h2
  refine pure_of_wp of86 (Nat.le_of_ble_eq_true rfl) ?_
  refine OptK.mk _ rfl ?_
  refine CallK.mk _ (before_ok h day) rfl ?_
  refine endV (by rfl) ?_
  refine congrArg _ ?_
  unfold startS
  simp (discharger := omega) only [w64, wu64, wu8, w32, wu32, tdivC, tmodC]
  omega
abbrev zero7 : List V := [.n .i64 0, .n .i64 0, .n .i64 0, .n .i64 0, .n .i64 0, .n .i64 0, .n .i64 0]
theorem civil_down {Q : Exit → St → Prop} {l : List LeapT} (hl : leapsErr l = 0) {t D : Int} (hD : -1000000 ≤ D ∧ D ≤ 1000000) (ht : startS l D ≤ t ∧ t < startS l (D + 1))
    (hQ : ∀ b, Q (.exit 0) ⟨[(0, .v (.n .i64 t)), (4, .ref 4 0), (7, .v (.n .i64 D)), (8, .v (.clo (.func 86) [] [.ip [leapsV l]])), (33, .v (.b b))], [(4, zero7)]⟩) : ∀ (j : Nat) (day : Int), day = D + j → day ≤ 2000000 →
    loopW Try.prog [0, 4, 7, 8] L26_0 Q ⟨[(0, .v (.n .i64 t)), (4, .ref 4 0), (7, .v (.n .i64 day)), (8, .v (.clo (.func 86) [] [.ip [leapsV l]]))], [(4, zero7)]⟩ := by
  intro j
  induction j with
  | zero =>
    intro day h1 h2
    obtain rfl : day = D := by omega
    refine loop_unroll ?_
    refine CallK.mk _ (start_ok hl _ (by omega)) rfl ?_
    refine DecK.dec (fun h => by omega) (fun h => ?_)
    exact hQ _
  | succ j ih =>
    intro day h1 h2
    have : startS l (D + 1) ≤ startS l day := by
      by_cases e : D + 1 = day
      · subst e; omega
      · have := start_lt hl (a := D + 1) (b := day) (by omega); omega
    refine loop_unroll ?_
    refine CallK.mk _ (start_ok hl _ (by omega)) rfl ?_
    refine DecK.dec (fun h => ?_) (fun h => by omega)
    refine ih _ ?_ ?_ <;> rw [w64 (by omega)] <;> omega
theorem civil_up {Q : Exit → St → Prop} {l : List LeapT} (hl : leapsErr l = 0) {t D : Int} (hD : -1000000 ≤ D ∧ D ≤ 1000000) (ht : startS l D ≤ t ∧ t < startS l (D + 1))
    (hQ : ∀ b, Q (.exit 0) ⟨[(0, .v (.n .i64 t)), (1, .v (leapsV l)), (4, .ref 4 0), (7, .v (.n .i64 D)), (32, .v (.b b))], [(4, zero7)]⟩) : ∀ (j : Nat) (day : Int), day + j = D → -2000000 ≤ day →
    loopW Try.prog [0, 1, 4, 7] L27_0 Q ⟨[(0, .v (.n .i64 t)), (1, .v (leapsV l)), (4, .ref 4 0), (7, .v (.n .i64 day))], [(4, zero7)]⟩ := by
  intro j
  induction j with
  | zero =>
    intro day h1 h2
    obtain rfl : day = D := by omega
    refine loop_unroll ?_
    refine CallK.mk _ (begin_ok hl _ (by rw [w64 (by omega)]; omega)) rfl ?_
    rw [w64 (n := day + 1) (by omega)]
    refine DecK.dec (fun h => ?_) (fun h => ?_)
    · unfold startS at ht; omega
    · exact hQ _
  | succ j ih =>
    intro day h1 h2
    have : startS l (day + 1) ≤ startS l D := by
      by_cases e : day + 1 = D
      · subst e; omega
      · have := start_lt hl (a := day + 1) (b := D) (by omega); omega
    refine loop_unroll ?_
    refine CallK.mk _ (begin_ok hl _ (by rw [w64 (by omega)]; omega)) rfl ?_
    rw [w64 (n := day + 1) (by omega)]
    refine DecK.dec (fun h => ?_) (fun h => ?_)
    · refine ih _ ?_ ?_ <;> rw [w64 (by omega)] <;> omega
    · unfold startS at ht this; omega
def hourF (r : Int) : Int := if r / 1000 = 86400 then 23 else r / 1000 / 3600
def minuteF (r : Int) : Int := if r / 1000 = 86400 then 59 else r / 1000 / 60 % 60
def secondF (r : Int) : Int := if r / 1000 = 86400 then 60 else r / 1000 % 60
theorem toCivil_ok {l : List LeapT} (hl : leapsErr l = 0) (hn : l.length ≤ 9000000000000000000) {t D y mo d : Int} (hr : -17592186044416 ≤ t ∧ t ≤ 17592186044416) (ht : startS l D ≤ t ∧ t < startS l (D + 1)) (ok : okDate y mo d) (hD : daysV y mo d = D) :
    Pure Try.prog 26 [.n .i64 t, leapsV l] (.tup [civilV y mo d (hourF (t - startS l D)) (minuteF (t - startS l D)) (secondF (t - startS l D)) ((t - startS l D) % 1000), .n .i64 0]) := by
  have n1 := start_near hl D
  have b1 : -1000000 ≤ D ∧ D ≤ 1000000 := by omega
  have e1 : IntKind.i64.wrap (IntKind.i64.wrap (t.tdiv 86400000) + 2) = t.tdiv 86400000 + 2 := by simp (discharger := omega) only [w64, wu64, wu8, w32, wu32, tdivC, tmodC]
  have e2 : t.tdiv 86400000 + 2 ≥ D ∧ t.tdiv 86400000 + 2 ≤ 2000000 := by rw [tdivC (by omega)]; omega
  refine pure_of_wp of26 (Nat.le_of_ble_eq_true rfl) ?_
  refine DecK.dec (fun h => by omega) (fun _ => ?_)
  refine DecK.dec (fun h => by omega) (fun _ => ?_)
  refine CallK.mk _ (checkLeaps_ok l hn) rfl ?_
  refine DecK.bne (fun g => absurd hl g) (fun _ => ?_)
  refine civil_down hl b1 ht (fun b => ?_) (t.tdiv 86400000 + 2 - D).toNat _ (by simp only [e1]; omega) (by simp only [e1]; omega)
  refine CallK.mk _ (start_ok hl _ (by omega)) rfl ?_
  have w1 : IntKind.i64.wrap (t - startS l D) = t - startS l D := w64 (by omega)
  have hR' : 0 ≤ t - startS l D ∧ t - startS l D < 86401000 := by omega
  subst hD
  repeat' first | refine DecK.tt ?_ | refine DecK.ff ?_ | refine DecK.beq (fun _ => ?_) (fun _ => ?_) | refine DecK.bne (fun _ => ?_) (fun _ => ?_) | refine DecK.dec (fun _ => ?_) (fun _ => ?_) | refine OptK.mk _ rfl ?_ | refine endV (by rfl) ?_ | (refine CallK.mk _ (date_ok ok) rfl ?_)
  all_goals simp only [w1]
  all_goals generalize t - startS l (daysV y mo d) = R at *
  show V.tup [civilV _ _ _ _ _ _ _, V.n .i64 _] = _
  simp (discharger := omega) only [w64, tdivC, tmodC]
  unfold hourF minuteF secondF
  simp only [V.tup.injEq, V.agg.injEq, V.n.injEq, V.b.injEq, V.s.injEq, List.cons.injEq, true_and, and_true]
  refine ⟨?_, ?_, ?_, ?_⟩ <;> omega
theorem toCivil_no {l : List LeapT} (hn : l.length ≤ 9000000000000000000) {t : Int} (h : t < -17592186044416 ∨ 17592186044416 < t ∨ leapsErr l ≠ 0) :
    Pure Try.prog 26 [.n .i64 t, leapsV l] (.tup [.agg zero7, .n .i64 (if t < -17592186044416 ∨ 17592186044416 < t then 4 else leapsErr l)]) := by
  refine pure_of_wp of26 (Nat.le_of_ble_eq_true rfl) ?_
  refine DecK.dec (fun h => ?_) (fun _ => ?_)
  · refine DecK.tt ?_
    refine OptK.mk _ rfl ?_
    refine endV (by rfl) ?_
    rw [if_pos (by omega)]; rfl
  refine DecK.dec (fun h => ?_) (fun _ => ?_)
  · refine OptK.mk _ rfl ?_
    refine endV (by rfl) ?_
    rw [if_pos (by omega)]; rfl
  refine CallK.mk _ (checkLeaps_ok l hn) rfl ?_
  refine DecK.bne (fun g => ?_) (fun _ => by omega)
  refine OptK.mk _ rfl ?_
  refine endV (by rfl) ?_
  rw [if_neg (by omega)]; rfl
theorem civilOf_ok {l : List LeapT} (hl : leapsErr l = 0) (hn : l.length ≤ 9000000000000000000) {t D y mo d : Int} (hr : -17592186044416 ≤ t ∧ t ≤ 17592186044416) (ht : startS l D ≤ t ∧ t < startS l (D + 1)) (ok : okDate y mo d) (hD : daysV y mo d = D) :
    Pure Try.prog 27 [.n .i64 t, leapsV l] (.tup [civilV y mo d (hourF (t - startS l D)) (minuteF (t - startS l D)) (secondF (t - startS l D)) ((t - startS l D) % 1000), .n .i64 0]) := by
  have n1 := start_near hl D
  have b1 : -1000000 ≤ D ∧ D ≤ 1000000 := by omega
  have e1 : IntKind.i64.wrap (IntKind.i64.wrap (t.tdiv 86400000) - 2) = t.tdiv 86400000 - 2 := by simp (discharger := omega) only [w64, wu64, wu8, w32, wu32, tdivC, tmodC]
  have e2 : t.tdiv 86400000 - 2 ≤ D ∧ -2000000 ≤ t.tdiv 86400000 - 2 := by rw [tdivC (by omega)]; omega
  refine pure_of_wp of27 (Nat.le_of_ble_eq_true rfl) ?_
  refine DecK.dec (fun h => by omega) (fun _ => ?_)
  refine DecK.dec (fun h => by omega) (fun _ => ?_)
  refine CallK.mk _ (leapsErr_ok l hn) rfl ?_
  refine DecK.bne (fun g => absurd hl g) (fun _ => ?_)
  refine civil_up hl b1 ht (fun b => ?_) (D - (t.tdiv 86400000 - 2)).toNat _ (by simp only [e1]; omega) (by simp only [e1]; omega)
  have w1 : IntKind.i64.wrap (t - (86400000 * daysV y mo d + 1000 * sumB (daysV y mo d) l)) = t - startS l (daysV y mo d) := by unfold startS at *; subst hD; exact w64 (by omega)
  have hR' : 0 ≤ t - startS l D ∧ t - startS l D < 86401000 := by omega
  subst hD
  repeat' first | refine OptK.mk _ rfl ?_ | (refine CallK.mk _ (dateOf_ok ok) rfl ?_) | (refine CallK.mk _ (begin_ok hl _ (by omega)) rfl ?_) | refine DecK.beq (fun _ => ?_) (fun _ => ?_) | refine endV (by rfl) ?_
  all_goals simp only [w1] at *
  all_goals generalize t - startS l (daysV y mo d) = R at *
  all_goals show V.tup [civilV _ _ _ _ _ _ _, V.n .i64 _] = _
  all_goals unfold hourF minuteF secondF
  all_goals rename_i g
  all_goals simp (discharger := omega) only [w64, tdivC, tmodC] at g
  all_goals simp (discharger := omega) only [w64, tdivC, tmodC]
  all_goals simp only [V.tup.injEq, V.agg.injEq, V.n.injEq, V.b.injEq, V.s.injEq, List.cons.injEq, true_and, and_true]
  all_goals refine ⟨?_, ?_, ?_, ?_⟩ <;> omega
theorem civilOf_no {l : List LeapT} (hn : l.length ≤ 9000000000000000000) {t : Int} (h : t < -17592186044416 ∨ 17592186044416 < t ∨ leapsErr l ≠ 0) :
    Pure Try.prog 27 [.n .i64 t, leapsV l] (.tup [.agg zero7, .n .i64 (if t < -17592186044416 ∨ 17592186044416 < t then 4 else leapsErr l)]) := by
  refine pure_of_wp of27 (Nat.le_of_ble_eq_true rfl) ?_
  refine DecK.dec (fun h => ?_) (fun _ => ?_)
  · refine DecK.tt ?_
    refine OptK.mk _ rfl ?_
    refine endV (by rfl) ?_
    rw [if_pos (by omega)]; rfl
  refine DecK.dec (fun h => ?_) (fun _ => ?_)
  · refine OptK.mk _ rfl ?_
    refine endV (by rfl) ?_
    rw [if_pos (by omega)]; rfl
  refine CallK.mk _ (leapsErr_ok l hn) rfl ?_
  refine DecK.bne (fun g => ?_) (fun _ => by omega)
  refine OptK.mk _ rfl ?_
  refine endV (by rfl) ?_
  rw [if_neg (by omega)]; rfl
theorem start_ex {l : List LeapT} (hl : leapsErr l = 0) {t : Int} (hr : -17592186044416 ≤ t ∧ t ≤ 17592186044416) : ∃ D, startS l D ≤ t ∧ t < startS l (D + 1) ∧ -300000 ≤ D ∧ D ≤ 300000 := by
  have main : ∀ j : Nat, j ≤ 600000 → t < startS l ((j : Int) - 300000) → ∃ D, startS l D ≤ t ∧ t < startS l (D + 1) ∧ -300000 ≤ D ∧ D ≤ 300000 := by
    intro j
    induction j with
    | zero => intro _ h; have := start_near hl (-300000); simp at h; omega
    | succ j ih =>
      intro hj h
      by_cases e : t < startS l ((j : Int) - 300000)
      · exact ih (by omega) e
      · exact ⟨(j : Int) - 300000, by omega, by rw [show (j : Int) - 300000 + 1 = ((j + 1 : Nat) : Int) - 300000 by omega]; exact h, by omega, by omega⟩
  refine main 600000 (by omega) ?_
  have := start_near hl 300000
  simp
  omega
end Go.Proofs.Ytkmlnmbhlkhgpaa.Sv

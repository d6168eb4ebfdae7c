/- Calendar: lengths of months, tables of leap seconds. No condition. -/
import Derived.Test.YtljcbmnkjiogmaaDoorWc
import Derived.Test.YtljcbmnkjiogmaaDoorProg
namespace Go.Proofs.YtljcbmnkjiogmaaDoor.Sv
open Go Go.RowKit
set_option linter.unusedVariables false
set_option linter.unusedSimpArgs false
set_option maxRecDepth 100000
/-- spyglass/spyref1.leapYear -/
def F80 : Fn1 := ⟨16, .seq (.reg [⟨some 2, none, .mv, [.cn (.b false)]⟩] [0]) (.seq (.reg [⟨some 3, none, .mv, [.tm 0]⟩, ⟨some 4, none, .po (.bin .rem), [.tm 3, .cn (.n .i64 400)]⟩, ⟨some 5, none, .po (.bin .eql), [.tm 4, .cn (.n .i64 0)]⟩, ⟨some 6, none, .mv, [.tm 5]⟩, ⟨some 7, some (6, false), .mv, [.tm 0]⟩, ⟨some 8, some (6, false), .po (.bin .rem), [.tm 7, .cn (.n .i64 4)]⟩, ⟨some 9, some (6, false), .po (.bin .eql), [.tm 8, .cn (.n .i64 0)]⟩, ⟨some 10, some (6, false), .mv, [.tm 9]⟩, ⟨some 11, some (10, true), .mv, [.tm 0]⟩, ⟨some 12, some (10, true), .po (.bin .rem), [.tm 11, .cn (.n .i64 100)]⟩, ⟨some 13, some (10, true), .po (.bin .neq), [.tm 12, .cn (.n .i64 0)]⟩, ⟨some 14, some (6, false), .pick, [.tm 10, .tm 13, .cn (.b false)]⟩, ⟨some 15, none, .pick, [.tm 6, .cn (.b true), .tm 14]⟩, ⟨some 2, none, .mv, [.tm 15]⟩] [2]) .ret), [.tm 2]⟩
theorem of80 : Fn1.of Tryd.prog 80 ⟨false, [], false⟩ [[0], [2]] = some F80 := by kernel_rfl
/-- spyglass/spyref1.monthDays -/
def F70 : Fn1 := ⟨16, .seq (.reg [⟨some 4, none, .mv, [.cn (.n .i64 0)]⟩] [0, 1]) (.seq (.seq (.reg [⟨some 5, none, .mv, [.tm 1]⟩, ⟨some 6, none, .po (.bin .eql), [.tm 5, .cn (.n .i64 2)]⟩, ⟨some 7, none, .mv, [.tm 6]⟩, ⟨some 8, some (7, true), .mv, [.tm 0]⟩, ⟨some 9, some (7, true), .call 80, [.tm 8]⟩, ⟨some 10, none, .pick, [.tm 7, .tm 9, .cn (.b false)]⟩] [1, 10]) (.cond (.tm 10) (.seq (.reg [⟨some 4, none, .mv, [.cn (.n .i64 29)]⟩] [4]) .ret) .skip)) (.seq (.reg [⟨some 11, none, .po (.bsl 12 [.n .i64 0] [(0, 1), (1, 1), (2, 1), (3, 1), (4, 1), (5, 1), (6, 1), (7, 1), (8, 1), (9, 1), (10, 1), (11, 1)]), [.cn (.n .i64 31), .cn (.n .i64 28), .cn (.n .i64 31), .cn (.n .i64 30), .cn (.n .i64 31), .cn (.n .i64 30), .cn (.n .i64 31), .cn (.n .i64 31), .cn (.n .i64 30), .cn (.n .i64 31), .cn (.n .i64 30), .cn (.n .i64 31)]⟩, ⟨some 12, none, .mv, [.tm 1]⟩, ⟨some 13, none, .po (.bin .sub), [.tm 12, .cn (.n .i64 1)]⟩, ⟨some 14, none, .ia none 1, [.tm 11, .tm 13]⟩, ⟨some 15, none, .ld false 1 true, [.tm 14]⟩, ⟨some 4, none, .mv, [.tm 15]⟩] [4]) .ret)), [.tm 4]⟩
theorem of70 : Fn1.of Tryd.prog 70 ⟨false, [], false⟩ [[0, 1], [1, 10], [4], [4]] = some F70 := by kernel_rfl
/-- spyglass/scale.length -/
def F67 : Fn1 := ⟨41, .seq (.reg [⟨some 4, none, .mv, [.cn (.n .i64 0)]⟩] [0, 1]) (.seq (.block 0 (.seq (.reg [⟨some 6, none, .mv, [.tm 1]⟩, ⟨some 7, none, .po (.bin .eql), [.tm 6, .cn (.n .i64 2)]⟩, ⟨some 8, none, .mv, [.tm 7]⟩, ⟨some 9, some (8, true), .mv, [.tm 0]⟩, ⟨some 10, some (8, true), .po (.bin .rem), [.tm 9, .cn (.n .i64 4)]⟩, ⟨some 11, some (8, true), .po (.bin .eql), [.tm 10, .cn (.n .i64 0)]⟩, ⟨some 12, none, .pick, [.tm 8, .tm 11, .cn (.b false)]⟩, ⟨some 13, none, .mv, [.tm 12]⟩, ⟨some 14, some (13, true), .mv, [.tm 0]⟩, ⟨some 15, some (13, true), .po (.bin .rem), [.tm 14, .cn (.n .i64 100)]⟩, ⟨some 16, some (13, true), .po (.bin .neq), [.tm 15, .cn (.n .i64 0)]⟩, ⟨some 17, some (13, true), .mv, [.tm 16]⟩, ⟨some 18, some (17, false), .mv, [.tm 0]⟩, ⟨some 19, some (17, false), .po (.bin .rem), [.tm 18, .cn (.n .i64 400)]⟩, ⟨some 20, some (17, false), .po (.bin .eql), [.tm 19, .cn (.n .i64 0)]⟩, ⟨some 21, some (13, true), .pick, [.tm 17, .cn (.b true), .tm 20]⟩, ⟨some 22, none, .pick, [.tm 13, .tm 21, .cn (.b false)]⟩, ⟨some 5, none, .mv, [.tm 22]⟩] [1, 5]) (.cond (.tm 5) (.seq (.reg [⟨some 4, none, .mv, [.cn (.n .i64 29)]⟩] [4]) .ret) (.seq (.reg [⟨some 24, none, .mv, [.tm 1]⟩, ⟨some 25, none, .po (.bin .eql), [.tm 24, .cn (.n .i64 2)]⟩, ⟨some 23, none, .mv, [.tm 25]⟩] [1, 23]) (.cond (.tm 23) (.seq (.reg [⟨some 4, none, .mv, [.cn (.n .i64 28)]⟩] [4]) .ret) (.seq (.reg [⟨some 27, none, .mv, [.tm 1]⟩, ⟨some 28, none, .po (.bin .eql), [.tm 27, .cn (.n .i64 4)]⟩, ⟨some 29, none, .mv, [.tm 28]⟩, ⟨some 30, some (29, false), .mv, [.tm 1]⟩, ⟨some 31, some (29, false), .po (.bin .eql), [.tm 30, .cn (.n .i64 6)]⟩, ⟨some 32, none, .pick, [.tm 29, .cn (.b true), .tm 31]⟩, ⟨some 33, none, .mv, [.tm 32]⟩, ⟨some 34, some (33, false), .mv, [.tm 1]⟩, ⟨some 35, some (33, false), .po (.bin .eql), [.tm 34, .cn (.n .i64 9)]⟩, ⟨some 36, none, .pick, [.tm 33, .cn (.b true), .tm 35]⟩, ⟨some 37, none, .mv, [.tm 36]⟩, ⟨some 38, some (37, false), .mv, [.tm 1]⟩, ⟨some 39, some (37, false), .po (.bin .eql), [.tm 38, .cn (.n .i64 11)]⟩, ⟨some 40, none, .pick, [.tm 37, .cn (.b true), .tm 39]⟩, ⟨some 26, none, .mv, [.tm 40]⟩] [26]) (.cond (.tm 26) (.seq (.reg [⟨some 4, none, .mv, [.cn (.n .i64 30)]⟩] [4]) .ret) .skip))))))) (.seq (.reg [⟨some 4, none, .mv, [.cn (.n .i64 31)]⟩] [4]) .ret)), [.tm 4]⟩
theorem of67 : Fn1.of Tryd.prog 67 ⟨false, [], false⟩ [[0, 1], [1, 5], [4], [1, 23], [4], [26], [4], [4]] = some F67 := by kernel_rfl
/-- spyglass/scale.days -/
def F60 : Fn1 := ⟨34, .seq (.reg [⟨some 6, none, .mv, [.cn (.n .i64 0)]⟩] [0, 1, 2]) (.seq (.seq (.reg [⟨some 7, none, .mv, [.tm 1]⟩, ⟨some 8, none, .po (.bin .sub), [.tm 7, .cn (.n .i64 3)]⟩, ⟨some 1, none, .mv, [.tm 8]⟩] [0, 1, 2]) (.seq (.reg [⟨some 9, none, .mv, [.tm 1]⟩, ⟨some 10, none, .po (.bin .lss), [.tm 9, .cn (.n .i64 0)]⟩] [0, 1, 2, 10]) (.cond (.tm 10) (.reg [⟨some 11, none, .mv, [.tm 0]⟩, ⟨some 12, none, .po (.bin .sub), [.tm 11, .cn (.n .i64 1)]⟩, ⟨some 13, none, .mv, [.tm 1]⟩, ⟨some 14, none, .po (.bin .add), [.tm 13, .cn (.n .i64 12)]⟩, ⟨some 0, none, .mv, [.tm 12]⟩, ⟨some 1, none, .mv, [.tm 14]⟩] [0, 1, 2]) .skip))) (.seq (.reg [⟨some 15, none, .mv, [.tm 0]⟩, ⟨some 16, none, .po (.bin .mul), [.cn (.n .i64 365), .tm 15]⟩, ⟨some 17, none, .mv, [.tm 0]⟩, ⟨some 18, none, .po (.bin .quo), [.tm 17, .cn (.n .i64 4)]⟩, ⟨some 19, none, .po (.bin .add), [.tm 16, .tm 18]⟩, ⟨some 20, none, .mv, [.tm 0]⟩, ⟨some 21, none, .po (.bin .quo), [.tm 20, .cn (.n .i64 100)]⟩, ⟨some 22, none, .po (.bin .sub), [.tm 19, .tm 21]⟩, ⟨some 23, none, .mv, [.tm 0]⟩, ⟨some 24, none, .po (.bin .quo), [.tm 23, .cn (.n .i64 400)]⟩, ⟨some 25, none, .po (.bin .add), [.tm 22, .tm 24]⟩, ⟨some 26, none, .mv, [.tm 1]⟩, ⟨some 27, none, .po (.bin .mul), [.cn (.n .i64 153), .tm 26]⟩, ⟨some 28, none, .po (.bin .add), [.tm 27, .cn (.n .i64 2)]⟩, ⟨some 29, none, .po (.bin .quo), [.tm 28, .cn (.n .i64 5)]⟩, ⟨some 30, none, .po (.bin .add), [.tm 25, .tm 29]⟩, ⟨some 31, none, .mv, [.tm 2]⟩, ⟨some 32, none, .po (.bin .add), [.tm 30, .tm 31]⟩, ⟨some 33, none, .po (.bin .sub), [.tm 32, .cn (.n .i64 730426)]⟩, ⟨some 6, none, .mv, [.tm 33]⟩] [6]) .ret)), [.tm 6]⟩
theorem of60 : Fn1.of Tryd.prog 60 ⟨false, [], false⟩ [[0, 1, 2], [0, 1, 2], [0, 1, 2, 10], [0, 1, 2], [6]] = some F60 := by kernel_rfl
/-- live: [0, 8, 9, 10] -/
def L59_0 : SC := .seq (.reg [⟨some 11, none, .po (.bin .lss), [.tm 10, .tm 9]⟩] [0, 8, 9, 10, 11]) (.seq (.cond (.tm 11) .skip (.exit 0)) (.seq (.block 1 (.seq (.reg [⟨some 12, none, .mv, [.tm 10]⟩, ⟨some 13, none, .ia none 2, [.tm 8, .tm 10]⟩, ⟨some 14, none, .ld true 2 true, [.tm 13]⟩, ⟨some 4, none, .alloc [.n .i64 0, .n .i64 0], []⟩, ⟨some 3, none, .mv, [.tm 12]⟩, ⟨none, none, .st 2, [.tm 4, .tm 14]⟩] [0, 3, 4, 8, 9, 10]) (.block 2 (.seq (.reg [⟨some 16, none, .fa 1, [.tm 4]⟩, ⟨some 17, none, .ld false 1 false, [.tm 16]⟩, ⟨some 18, none, .po (.bin .neq), [.tm 17, .cn (.n .i64 1)]⟩, ⟨some 19, none, .mv, [.tm 18]⟩, ⟨some 20, some (19, true), .fa 1, [.tm 4]⟩, ⟨some 21, some (19, true), .ld false 1 false, [.tm 20]⟩, ⟨some 22, some (19, true), .po (.bin .neq), [.tm 21, .cn (.n .i64 (-1))]⟩, ⟨some 23, none, .pick, [.tm 19, .tm 22, .cn (.b false)]⟩, ⟨some 15, none, .mv, [.tm 23]⟩] [0, 3, 4, 8, 9, 10, 15]) (.cond (.tm 15) (.seq (.reg [⟨some 2, none, .mv, [.cn (.n .i64 1)]⟩] [2]) .ret) (.seq (.reg [⟨some 25, none, .fa 0, [.tm 4]⟩, ⟨some 26, none, .ld false 1 false, [.tm 25]⟩, ⟨some 27, none, .po (.bin .lss), [.tm 26, .cn (.n .i64 (-200000))]⟩, ⟨some 28, none, .mv, [.tm 27]⟩, ⟨some 29, some (28, false), .fa 0, [.tm 4]⟩, ⟨some 30, some (28, false), .ld false 1 false, [.tm 29]⟩, ⟨some 31, some (28, false), .po (.bin .gtr), [.tm 30, .cn (.n .i64 200000)]⟩, ⟨some 32, none, .pick, [.tm 28, .cn (.b true), .tm 31]⟩, ⟨some 24, none, .mv, [.tm 32]⟩] [0, 3, 4, 8, 9, 10, 24]) (.cond (.tm 24) (.seq (.reg [⟨some 2, none, .mv, [.cn (.n .i64 4)]⟩] [2]) .ret) (.seq (.dreg [⟨some 34, none, .mv, [.tm 3]⟩, ⟨some 35, none, .po (.bin .gtr), [.tm 34, .cn (.n .i64 0)]⟩, ⟨some 36, none, .mv, [.tm 35]⟩, ⟨some 37, some (36, true), .fa 0, [.tm 4]⟩, ⟨some 38, some (36, true), .ld false 1 false, [.tm 37]⟩, ⟨some 39, some (36, true), .mv, [.tm 0]⟩, ⟨some 40, some (36, true), .mv, [.tm 3]⟩, ⟨some 41, some (36, true), .po (.bin .sub), [.tm 40, .cn (.n .i64 1)]⟩, ⟨some 42, some (36, true), .ia none 2, [.tm 39, .tm 41]⟩, ⟨some 43, some (36, true), .fa 0, [.tm 42]⟩, ⟨some 44, some (36, true), .ld false 1 true, [.tm 43]⟩, ⟨some 45, some (36, true), .po (.bin .leq), [.tm 38, .tm 44]⟩, ⟨some 46, none, .pick, [.tm 36, .tm 45, .cn (.b false)]⟩, ⟨some 33, none, .mv, [.tm 46]⟩] [] [0, 8, 9, 10, 33]) (.cond (.tm 33) (.seq (.reg [⟨some 2, none, .mv, [.cn (.n .i64 11)]⟩] [2]) .ret) .skip))))))))) (.reg [⟨some 47, none, .po (.bin .add), [.tm 10, .cn (.n .i64 1)]⟩, ⟨some 10, none, .mv, [.tm 47]⟩] [0, 8, 9, 10])))
/-- spyglass/scale.CheckLeaps -/
def F59 : Fn1 := ⟨48, .seq (.reg [⟨some 2, none, .mv, [.cn (.n .i64 0)]⟩] [0]) (.seq (.seq (.reg [⟨some 5, none, .mv, [.tm 0]⟩, ⟨some 6, none, .len false, [.tm 5]⟩, ⟨some 7, none, .po (.bin .gtr), [.tm 6, .cn (.n .i64 64)]⟩] [0, 7]) (.cond (.tm 7) (.seq (.reg [⟨some 2, none, .mv, [.cn (.n .i64 2)]⟩] [2]) .ret) .skip)) (.seq (.seq (.reg [⟨some 8, none, .mv, [.tm 0]⟩, ⟨some 9, none, .len false, [.tm 8]⟩, ⟨some 10, none, .mv, [.cn (.n .i64 0)]⟩] [0, 8, 9, 10]) (.block 0 (.loop [0, 8, 9, 10] L59_0))) (.seq (.reg [⟨some 2, none, .mv, [.cn (.n .i64 0)]⟩] [2]) .ret))), [.tm 2]⟩
theorem of59 : Fn1.of Tryd.prog 59 ⟨false, [], false⟩ [[0], [0, 7], [2], [0, 8, 9, 10], [0, 8, 9, 10], [0, 8, 9, 10, 11], [0, 3, 4, 8, 9, 10], [0, 3, 4, 8, 9, 10, 15], [2], [0, 3, 4, 8, 9, 10, 24], [2], [0, 8, 9, 10, 33], [2], [0, 8, 9, 10], [2]] = some F59 := by kernel_rfl
def leap (y : Int) : Prop := y.tmod 400 = 0 ∨ (y.tmod 4 = 0 ∧ ¬ y.tmod 100 = 0)
instance (y : Int) : Decidable (leap y) := by unfold leap; infer_instance
theorem leapYear_ok (y : Int) : Pure Tryd.prog 80 [.n .i64 y] (.b (decide (leap y))) := by
  refine pure_of_wp of80 (Nat.le_of_ble_eq_true rfl) ?_
  ((repeat' first | refine DecK.tt ?_ | refine DecK.ff ?_ | refine DecK.beq (fun _ => ?_) (fun _ => ?_) | refine DecK.bne (fun _ => ?_) (fun _ => ?_) | refine DecK.dec (fun _ => ?_) (fun _ => ?_) | refine OptK.mk _ rfl ?_ | refine endV (by rfl) ?_) <;> (try with_reducible rfl))
  all_goals first | (simp_all [leap]; done) | (simp_all [leap]; rfl)
def mlen (y m : Int) : Int := if m = 2 then (if leap y then 29 else 28) else if m = 4 ∨ m = 6 ∨ m = 9 ∨ m = 11 then 30 else 31
theorem monthDays_ok (y m : Int) (hm : 1 ≤ m ∧ m ≤ 12) : Pure Tryd.prog 70 [.n .i64 y, .n .i64 m] (.n .i64 (mlen y m)) := by
  have hm' : m = 1 ∨ m = 2 ∨ m = 3 ∨ m = 4 ∨ m = 5 ∨ m = 6 ∨ m = 7 ∨ m = 8 ∨ m = 9 ∨ m = 10 ∨ m = 11 ∨ m = 12 := by omega
  refine pure_of_wp of70 (Nat.le_of_ble_eq_true rfl) ?_
  rcases hm' with rfl | rfl | rfl | rfl | rfl | rfl | rfl | rfl | rfl | rfl | rfl | rfl
  all_goals repeat' first | refine CallK.mk _ (leapYear_ok _) rfl ?_ | refine DecK.tt ?_ | refine DecK.ff ?_ | refine DecK.beq (fun _ => ?_) (fun _ => ?_) | refine DecK.bne (fun _ => ?_) (fun _ => ?_) | refine DecK.dec (fun _ => ?_) (fun _ => ?_) | refine OptK.mk _ rfl ?_ | refine endV (by rfl) ?_
  all_goals simp_all [mlen]
theorem length_ok (y m : Int) : Pure Tryd.prog 67 [.n .i64 y, .n .i64 m] (.n .i64 (mlen y m)) := by
  refine pure_of_wp of67 (Nat.le_of_ble_eq_true rfl) ?_
  ((repeat' first | refine DecK.tt ?_ | refine DecK.ff ?_ | refine DecK.beq (fun _ => ?_) (fun _ => ?_) | refine DecK.bne (fun _ => ?_) (fun _ => ?_) | refine DecK.dec (fun _ => ?_) (fun _ => ?_) | refine OptK.mk _ rfl ?_ | refine endV (by rfl) ?_) <;> (try with_reducible rfl))
  all_goals try simp only [← Int.dvd_iff_tmod_eq_zero] at *
  all_goals refine congrArg _ ?_
  all_goals unfold mlen leap
  all_goals try simp only [← Int.dvd_iff_tmod_eq_zero]
  all_goals omega
theorem leap_iff (y : Int) : leap y ↔ 400 ∣ y ∨ (4 ∣ y ∧ ¬ 100 ∣ y) := by unfold leap; simp only [← Int.dvd_iff_tmod_eq_zero]
/-- Days by the program's closed form; March is month 0 there. -/
def daysF (y m d : Int) : Int := 365 * y + y.tdiv 4 - y.tdiv 100 + y.tdiv 400 + (153 * m + 2).tdiv 5 + d - 730426
def daysV (y m d : Int) : Int := if m < 3 then daysF (y - 1) (m + 9) d else daysF y (m - 3) d
theorem days_ok (y m d : Int) (hy : -20000 ≤ y ∧ y ≤ 20000) (hm : 1 ≤ m ∧ m ≤ 12) (hd : -1000000000 ≤ d ∧ d ≤ 1000000000) : Pure Tryd.prog 60 [.n .i64 y, .n .i64 m, .n .i64 d] (.n .i64 (daysV y m d)) := by
  have w3 : IntKind.i64.wrap (m - 3) = m - 3 := wrap64 (by omega) (by omega)
  refine pure_of_wp of60 (Nat.le_of_ble_eq_true rfl) ?_
  ((repeat' first | refine DecK.tt ?_ | refine DecK.ff ?_ | refine DecK.beq (fun _ => ?_) (fun _ => ?_) | refine DecK.bne (fun _ => ?_) (fun _ => ?_) | refine DecK.dec (fun _ => ?_) (fun _ => ?_) | refine OptK.mk _ rfl ?_ | refine endV (by rfl) ?_) <;> (try with_reducible rfl))
  all_goals refine congrArg _ ?_
  all_goals rename_i h
  all_goals rw [w3] at h
  · rw [daysV, if_pos (by omega), daysF, w3, show IntKind.i64.wrap (m - 3 + 12) = m + 9 by rw [w64 (by omega)]; omega]
    simp (discharger := omega) only [w64, wu64, wu8, w32, wu32, tdivC, tmodC]
  · rw [daysV, if_neg (by omega), daysF, w3]
    simp (discharger := omega) only [w64, wu64, wu8, w32, wu32, tdivC, tmodC]
/-- A table of leap seconds. -/
abbrev LeapT := Int × Int × Unit
abbrev leapC (x : LeapT) : List V := [.n .i64 x.1, .n .i64 x.2.1]
def leapsIn (l : List LeapT) : Prop := ∀ x ∈ l, (-9223372036854775808 ≤ x.1 ∧ x.1 ≤ 9223372036854775807) ∧ -9223372036854775808 ≤ x.2.1 ∧ x.2.1 ≤ 9223372036854775807
def lerr : Int → List LeapT → Int
  | _, [] => 0
  | last, x :: r => if x.2.1 ≠ 1 ∧ x.2.1 ≠ -1 then 1 else if x.1 < -200000 ∨ x.1 > 200000 then 4 else if x.1 ≤ last then 11 else lerr x.1 r
def leapsErr (l : List LeapT) : Int := if 64 < l.length then 2 else lerr (-4611686018427387904) l
abbrev leapsV (l : List LeapT) : V := .sl l.length (l.flatMap leapC) false
theorem checkLeaps_loop {Q : Exit → St → Prop} {l : List LeapT} (hl : l.length ≤ 64) : ∀ (suf : List LeapT) (k : Nat) (i last : Int), i = k → l.drop k = suf → (∀ y, 0 < k → l[k - 1]? = some y → y.1 = last) → (0 < k ∨ last = -4611686018427387904) →
    (∀ e, e = lerr last suf → e ≠ 0 → Q .ret ⟨[(2, .v (.n .i64 e))], []⟩) → (lerr last suf = 0 → ∀ ρ, Q (.exit 0) ⟨ρ, []⟩) →
    loopW Tryd.prog [0, 8, 9, 10] L59_0 Q ⟨[(0, .v (leapsV l)), (8, .v (leapsV l)), (9, .v (.n .i64 l.length)), (10, .v (.n .i64 i))], []⟩ := by
  intro suf
  induction suf with
  | nil =>
    intro k i last hi hd hp h0 hQ hX
    have := drop_nil hd
    refine loop_unroll ?_
    refine DecK.dec (fun h => by omega) (fun _ => ?_)
    exact hX rfl _
  | cons x r ih =>
    intro k i last hi hd hp h0 hQ hX
    obtain ⟨hx, hd', hk, hlen⟩ := drop_step hd
    have ih := ih (k + 1) (IntKind.i64.wrap (i + 1)) x.1 (by rw [w64 (by omega)]; omega) hd' (fun y _ hy => by rw [Nat.add_sub_cancel, hx] at hy; cases hy; rfl) (by omega)
    refine loop_unroll ?_
    refine DecK.dec (fun h => ?_) (fun h => by omega)
    refine OptK.mk _ (row_ia (by omega) (by omega)) ?_
    refine OptK.mk _ (row_ld (f := leapC) (fun _ => rfl) hi hx) ?_
    refine OptK.mk _ rfl ?_
    unfold lerr at hQ hX
    obtain ⟨y, hy1, hy2⟩ : ∃ y, (0 < k → l[k - 1]? = some y) ∧ (k = 0 ∨ y.1 = last) := by
      by_cases h : 0 < k
      · have : k - 1 < l.length := by omega
        exact ⟨_, fun _ => List.getElem?_eq_getElem this, .inr (hp _ h (List.getElem?_eq_getElem this))⟩
      · exact ⟨x, fun h' => absurd h' h, .inl (by omega)⟩
    clear hp
    have hw : 0 < k → IntKind.i64.wrap (i - 1) = ((k - 1 : Nat) : Int) := fun h => by rw [w64 (by omega)]; omega
    repeat' first
      | refine DecK.tt ?_ | refine DecK.ff ?_ | refine DecK.beq (fun _ => ?_) (fun _ => ?_) | refine DecK.bne (fun _ => ?_) (fun _ => ?_) | refine DecK.dec (fun _ => ?_) (fun _ => ?_) | refine OptK.mk _ rfl ?_ | refine endV (by rfl) ?_
      | (refine hQ _ ?_ (by omega))
      | (refine ih ?_ ?_)
      | (refine OptK.mk _ (row_ia (by rw [hw (by omega)]; omega) (by rw [hw (by omega)]; omega)) ?_)
      | (refine OptK.mk (.v (.n .i64 y.1)) (row_fld (f := leapC) (fun _ => rfl) (hw (by omega)) (hy1 (by omega)) rfl) ?_)
    all_goals first | omega | (intro e he hne; exact hQ e (by omega) hne) | (intro he; exact hX (by omega))
theorem checkLeaps_ok (l : List LeapT) (hl : l.length ≤ 9000000000000000000) : Pure Tryd.prog 59 [leapsV l] (.n .i64 (leapsErr l)) := by
  refine pure_of_wp of59 (Nat.le_of_ble_eq_true rfl) ?_
  ((repeat' first | refine DecK.tt ?_ | refine DecK.ff ?_ | refine DecK.beq (fun _ => ?_) (fun _ => ?_) | refine DecK.bne (fun _ => ?_) (fun _ => ?_) | refine DecK.dec (fun _ => ?_) (fun _ => ?_) | refine OptK.mk _ rfl ?_ | refine endV (by rfl) ?_) <;> (try with_reducible rfl))
  · refine congrArg _ ?_
    unfold leapsErr; rw [if_pos (by omega)]
  · have he : leapsErr l = lerr (-4611686018427387904) l := by unfold leapsErr; rw [if_neg (by omega)]
    refine checkLeaps_loop (l := l) (by omega) l 0 _ (-4611686018427387904) rfl rfl (by omega) (by omega) (fun e h1 h2 => ?_) (fun h1 ρ => ?_)
    · refine endV (by rfl) ?_
      rw [he, h1]
    · refine endV (by rfl) ?_
      rw [he, h1]
end Go.Proofs.YtljcbmnkjiogmaaDoor.Sv

/- Calendar: the numbers of days. No condition. -/
import Derived.Test.YtljcbmnkjiogmaaDoorTa
namespace Go.Proofs.YtljcbmnkjiogmaaDoor.Sv
open Go Go.RowKit
set_option linter.unusedVariables false
set_option linter.unusedSimpArgs false
set_option maxRecDepth 100000
/-- live: [3, 5] -/
def L71_0 : SC := .seq (.seq (.reg [⟨some 18, none, .mv, [.tm 5]⟩, ⟨some 19, none, .po (.bin .lss), [.tm 18, .cn (.n .i64 2000)]⟩] [3, 5, 19]) (.cond (.tm 19) .skip (.exit 2))) (.seq (.block 3 (.seq (.reg [⟨some 22, none, .mv, [.tm 3]⟩, ⟨some 23, none, .po (.bin .sub), [.tm 22, .cn (.n .i64 365)]⟩, ⟨some 3, none, .mv, [.tm 23]⟩] [3, 5]) (.seq (.reg [⟨some 24, none, .mv, [.tm 5]⟩, ⟨some 25, none, .call 80, [.tm 24]⟩] [3, 5, 25]) (.cond (.tm 25) (.reg [⟨some 26, none, .mv, [.tm 3]⟩, ⟨some 27, none, .po (.bin .sub), [.tm 26, .cn (.n .i64 1)]⟩, ⟨some 3, none, .mv, [.tm 27]⟩] [3, 5]) .skip)))) (.reg [⟨some 20, none, .mv, [.tm 5]⟩, ⟨some 21, none, .po (.bin .add), [.tm 20, .cn (.n .i64 1)]⟩, ⟨some 5, none, .mv, [.tm 21]⟩] [3, 5]))
/-- live: [0, 3, 4] -/
def L71_1 : SC := .seq (.seq (.reg [⟨some 6, none, .mv, [.tm 4]⟩, ⟨some 7, none, .mv, [.tm 0]⟩, ⟨some 8, none, .po (.bin .lss), [.tm 6, .tm 7]⟩] [0, 3, 4, 8]) (.cond (.tm 8) .skip (.exit 0))) (.seq (.block 1 (.seq (.reg [⟨some 11, none, .mv, [.tm 3]⟩, ⟨some 12, none, .po (.bin .add), [.tm 11, .cn (.n .i64 365)]⟩, ⟨some 3, none, .mv, [.tm 12]⟩] [0, 3, 4]) (.seq (.reg [⟨some 13, none, .mv, [.tm 4]⟩, ⟨some 14, none, .call 80, [.tm 13]⟩] [0, 3, 4, 14]) (.cond (.tm 14) (.reg [⟨some 15, none, .mv, [.tm 3]⟩, ⟨some 16, none, .po (.bin .add), [.tm 15, .cn (.n .i64 1)]⟩, ⟨some 3, none, .mv, [.tm 16]⟩] [0, 3, 4]) .skip)))) (.reg [⟨some 9, none, .mv, [.tm 4]⟩, ⟨some 10, none, .po (.bin .add), [.tm 9, .cn (.n .i64 1)]⟩, ⟨some 4, none, .mv, [.tm 10]⟩] [0, 3, 4]))
/-- spyglass/spyref1.FirstDay -/
def F71 : Fn1 := ⟨29, .seq (.reg [⟨some 2, none, .mv, [.cn (.n .i64 0)]⟩] [0]) (.seq (.reg [⟨some 3, none, .mv, [.cn (.n .i64 0)]⟩] [0, 3]) (.seq (.seq (.reg [⟨some 4, none, .mv, [.cn (.n .i64 2000)]⟩] [0, 3, 4]) (.block 0 (.loop [0, 3, 4] L71_1))) (.seq (.seq (.reg [⟨some 17, none, .mv, [.tm 0]⟩, ⟨some 5, none, .mv, [.tm 17]⟩] [3, 5]) (.block 2 (.loop [3, 5] L71_0))) (.seq (.reg [⟨some 28, none, .mv, [.tm 3]⟩, ⟨some 2, none, .mv, [.tm 28]⟩] [2]) .ret)))), [.tm 2]⟩
theorem of71 : Fn1.of Tryd.prog 71 ⟨false, [], false⟩ [[0], [0, 3], [0, 3, 4], [0, 3, 4], [0, 3, 4, 8], [0, 3, 4], [0, 3, 4, 14], [0, 3, 4], [0, 3, 4], [3, 5], [3, 5], [3, 5, 19], [3, 5], [3, 5, 25], [3, 5], [3, 5], [2]] = some F71 := by kernel_rfl
/-- live: [0, 1, 2, 8, 9] -/
def L53_0 : SC := .seq (.seq (.reg [⟨some 37, none, .mv, [.tm 9]⟩, ⟨some 38, none, .mv, [.tm 1]⟩, ⟨some 39, none, .po (.bin .lss), [.tm 37, .tm 38]⟩] [0, 1, 2, 8, 9, 39]) (.cond (.tm 39) .skip (.exit 0))) (.seq (.block 1 (.reg [⟨some 42, none, .mv, [.tm 8]⟩, ⟨some 43, none, .mv, [.tm 0]⟩, ⟨some 44, none, .mv, [.tm 9]⟩, ⟨some 45, none, .call 70, [.tm 43, .tm 44]⟩, ⟨some 46, none, .po (.bin .add), [.tm 42, .tm 45]⟩, ⟨some 8, none, .mv, [.tm 46]⟩] [0, 1, 2, 8, 9])) (.reg [⟨some 40, none, .mv, [.tm 9]⟩, ⟨some 41, none, .po (.bin .add), [.tm 40, .cn (.n .i64 1)]⟩, ⟨some 9, none, .mv, [.tm 41]⟩] [0, 1, 2, 8, 9]))
/-- spyglass/spyref1.DayNumber -/
def F53 : Fn1 := ⟨51, .seq (.reg [⟨some 6, none, .mv, [.cn (.n .i64 0)]⟩, ⟨some 7, none, .mv, [.cn (.n .i64 0)]⟩] [0, 1, 2]) (.seq (.seq (.reg [⟨some 10, none, .mv, [.tm 0]⟩, ⟨some 11, none, .po (.bin .lss), [.tm 10, .cn (.n .i64 1)]⟩, ⟨some 12, none, .mv, [.tm 11]⟩, ⟨some 13, some (12, false), .mv, [.tm 0]⟩, ⟨some 14, some (12, false), .po (.bin .gtr), [.tm 13, .cn (.n .i64 9999)]⟩, ⟨some 15, none, .pick, [.tm 12, .cn (.b true), .tm 14]⟩, ⟨some 16, none, .mv, [.tm 15]⟩, ⟨some 17, some (16, false), .mv, [.tm 1]⟩, ⟨some 18, some (16, false), .po (.bin .lss), [.tm 17, .cn (.n .i64 1)]⟩, ⟨some 19, none, .pick, [.tm 16, .cn (.b true), .tm 18]⟩, ⟨some 20, none, .mv, [.tm 19]⟩, ⟨some 21, some (20, false), .mv, [.tm 1]⟩, ⟨some 22, some (20, false), .po (.bin .gtr), [.tm 21, .cn (.n .i64 12)]⟩, ⟨some 23, none, .pick, [.tm 20, .cn (.b true), .tm 22]⟩, ⟨some 24, none, .mv, [.tm 23]⟩, ⟨some 25, some (24, false), .mv, [.tm 2]⟩, ⟨some 26, some (24, false), .po (.bin .lss), [.tm 25, .cn (.n .i64 1)]⟩, ⟨some 27, none, .pick, [.tm 24, .cn (.b true), .tm 26]⟩, ⟨some 28, none, .mv, [.tm 27]⟩, ⟨some 29, some (28, false), .mv, [.tm 2]⟩, ⟨some 30, some (28, false), .mv, [.tm 0]⟩, ⟨some 31, some (28, false), .mv, [.tm 1]⟩, ⟨some 32, some (28, false), .call 70, [.tm 30, .tm 31]⟩, ⟨some 33, some (28, false), .po (.bin .gtr), [.tm 29, .tm 32]⟩, ⟨some 34, none, .pick, [.tm 28, .cn (.b true), .tm 33]⟩] [0, 1, 2, 34]) (.cond (.tm 34) (.seq (.reg [⟨some 6, none, .mv, [.cn (.n .i64 0)]⟩, ⟨some 7, none, .mv, [.cn (.n .i64 4)]⟩] [6, 7]) .ret) .skip)) (.seq (.reg [⟨some 35, none, .mv, [.tm 0]⟩, ⟨some 36, none, .call 71, [.tm 35]⟩, ⟨some 8, none, .mv, [.tm 36]⟩] [0, 1, 2, 8]) (.seq (.seq (.reg [⟨some 9, none, .mv, [.cn (.n .i64 1)]⟩] [0, 1, 2, 8, 9]) (.block 0 (.loop [0, 1, 2, 8, 9] L53_0))) (.seq (.reg [⟨some 47, none, .mv, [.tm 8]⟩, ⟨some 48, none, .mv, [.tm 2]⟩, ⟨some 49, none, .po (.bin .add), [.tm 47, .tm 48]⟩, ⟨some 50, none, .po (.bin .sub), [.tm 49, .cn (.n .i64 1)]⟩, ⟨some 6, none, .mv, [.tm 50]⟩, ⟨some 7, none, .mv, [.cn (.n .i64 0)]⟩] [6, 7]) .ret)))), [.tm 6, .tm 7]⟩
theorem of53 : Fn1.of Tryd.prog 53 ⟨false, [], false⟩ [[0, 1, 2], [0, 1, 2, 34], [6, 7], [0, 1, 2, 8], [0, 1, 2, 8, 9], [0, 1, 2, 8, 9], [0, 1, 2, 8, 9, 39], [0, 1, 2, 8, 9], [0, 1, 2, 8, 9], [6, 7]] = some F53 := by kernel_rfl
/-- spyglass/scale.Days -/
def F51 : Fn1 := ⟨37, .seq (.reg [⟨some 6, none, .mv, [.cn (.n .i64 0)]⟩, ⟨some 7, none, .mv, [.cn (.n .i64 0)]⟩] [0, 1, 2]) (.seq (.seq (.reg [⟨some 8, none, .mv, [.tm 0]⟩, ⟨some 9, none, .po (.bin .lss), [.tm 8, .cn (.n .i64 1)]⟩, ⟨some 10, none, .mv, [.tm 9]⟩, ⟨some 11, some (10, false), .mv, [.tm 0]⟩, ⟨some 12, some (10, false), .po (.bin .gtr), [.tm 11, .cn (.n .i64 9999)]⟩, ⟨some 13, none, .pick, [.tm 10, .cn (.b true), .tm 12]⟩, ⟨some 14, none, .mv, [.tm 13]⟩, ⟨some 15, some (14, false), .mv, [.tm 1]⟩, ⟨some 16, some (14, false), .po (.bin .lss), [.tm 15, .cn (.n .i64 1)]⟩, ⟨some 17, none, .pick, [.tm 14, .cn (.b true), .tm 16]⟩, ⟨some 18, none, .mv, [.tm 17]⟩, ⟨some 19, some (18, false), .mv, [.tm 1]⟩, ⟨some 20, some (18, false), .po (.bin .gtr), [.tm 19, .cn (.n .i64 12)]⟩, ⟨some 21, none, .pick, [.tm 18, .cn (.b true), .tm 20]⟩, ⟨some 22, none, .mv, [.tm 21]⟩, ⟨some 23, some (22, false), .mv, [.tm 2]⟩, ⟨some 24, some (22, false), .po (.bin .lss), [.tm 23, .cn (.n .i64 1)]⟩, ⟨some 25, none, .pick, [.tm 22, .cn (.b true), .tm 24]⟩, ⟨some 26, none, .mv, [.tm 25]⟩, ⟨some 27, some (26, false), .mv, [.tm 2]⟩, ⟨some 28, some (26, false), .mv, [.tm 0]⟩, ⟨some 29, some (26, false), .mv, [.tm 1]⟩, ⟨some 30, some (26, false), .call 67, [.tm 28, .tm 29]⟩, ⟨some 31, some (26, false), .po (.bin .gtr), [.tm 27, .tm 30]⟩, ⟨some 32, none, .pick, [.tm 26, .cn (.b true), .tm 31]⟩] [0, 1, 2, 32]) (.cond (.tm 32) (.seq (.reg [⟨some 6, none, .mv, [.cn (.n .i64 0)]⟩, ⟨some 7, none, .mv, [.cn (.n .i64 4)]⟩] [6, 7]) .ret) .skip)) (.seq (.reg [⟨some 33, none, .mv, [.tm 0]⟩, ⟨some 34, none, .mv, [.tm 1]⟩, ⟨some 35, none, .mv, [.tm 2]⟩, ⟨some 36, none, .call 60, [.tm 33, .tm 34, .tm 35]⟩, ⟨some 6, none, .mv, [.tm 36]⟩, ⟨some 7, none, .mv, [.cn (.n .i64 0)]⟩] [6, 7]) .ret)), [.tm 6, .tm 7]⟩
theorem of51 : Fn1.of Tryd.prog 51 ⟨false, [], false⟩ [[0, 1, 2], [0, 1, 2, 32], [6, 7], [6, 7]] = some F51 := by kernel_rfl
theorem daysV_d (y m d : Int) : daysV y m d = daysV y m 1 + d - 1 := by unfold daysV daysF; split <;> omega
theorem fd_succ (y : Int) (h : 1 ≤ y) : daysV (y + 1) 1 1 = daysV y 1 1 + 365 + if leap y then 1 else 0 := by
  simp only [leap_iff]
  simp (discharger := omega) only [daysV, daysF, tdivC]
  omega
theorem month_succ (y m : Int) (h : 1 ≤ y) (hm : 1 ≤ m ∧ m ≤ 11) : daysV y (m + 1) 1 = daysV y m 1 + mlen y m := by
  have : m = 1 ∨ m = 2 ∨ m = 3 ∨ m = 4 ∨ m = 5 ∨ m = 6 ∨ m = 7 ∨ m = 8 ∨ m = 9 ∨ m = 10 ∨ m = 11 := by omega
  rcases this with rfl | rfl | rfl | rfl | rfl | rfl | rfl | rfl | rfl | rfl | rfl
  all_goals simp [mlen]
  all_goals try simp only [leap_iff]
  all_goals simp (discharger := omega) only [daysV, daysF, tdivC]
  all_goals simp
  all_goals omega
theorem fd_bounds (y : Int) (h : 1 ≤ y ∧ y ≤ 20000) : -1000000 ≤ daysV y 1 1 ∧ daysV y 1 1 ≤ 8000000 := by
  simp (discharger := omega) only [daysV, daysF, tdivC]
  omega
theorem firstDay_up {Q : Exit → St → Prop} (y : Int) (hy : y ≤ 20000) (hQ : ∀ k' b, Q (.exit 0) ⟨[(0, .v (.n .i64 y)), (3, .v (.n .i64 (daysV y 1 1))), (4, .v (.n .i64 k')), (8, .v (.b b))], []⟩) : ∀ (m : Nat) (k n : Int), 1 ≤ k → k + m = y → n = daysV k 1 1 →
    loopW Tryd.prog [0, 3, 4] L71_1 Q ⟨[(0, .v (.n .i64 y)), (3, .v (.n .i64 n)), (4, .v (.n .i64 k))], []⟩ := by
  intro m
  induction m with
  | zero =>
    intro k n h0 h1 h2
    obtain rfl : k = y := by omega
    subst h2
    refine loop_unroll ?_
    refine DecK.dec (fun h => by omega) (fun h => ?_)
    exact hQ _ _
  | succ m ih =>
    intro k n h0 h1 h2
    have hb := fd_bounds k (by omega)
    have hs := fd_succ k h0
    refine loop_unroll ?_
    refine DecK.dec (fun h => ?_) (fun h => by omega)
    refine CallK.mk _ (leapYear_ok _) rfl ?_
    refine DecK.dec (fun h => ?_) (fun h => ?_)
    · rw [if_pos h] at hs
      refine ih _ _ ?_ ?_ ?_ <;> rw [w64 (n := k + 1) (by omega)]
      · omega
      · omega
      · rw [hs]; simp (discharger := omega) only [w64, wu64, wu8, w32, wu32, tdivC, tmodC]; omega
    · rw [if_neg h] at hs
      refine ih _ _ ?_ ?_ ?_ <;> rw [w64 (n := k + 1) (by omega)]
      · omega
      · omega
      · rw [hs]; simp (discharger := omega) only [w64, wu64, wu8, w32, wu32, tdivC, tmodC]; omega
theorem firstDay_down {Q : Exit → St → Prop} (y : Int) (hy : 1 ≤ y) (hQ : ∀ k' b, Q (.exit 2) ⟨[(3, .v (.n .i64 (daysV y 1 1))), (5, .v (.n .i64 k')), (19, .v (.b b))], []⟩) : ∀ (m : Nat) (k n : Int), y ≤ k → k + m = 2000 → n = daysV y 1 1 - daysV k 1 1 →
    loopW Tryd.prog [3, 5] L71_0 Q ⟨[(3, .v (.n .i64 n)), (5, .v (.n .i64 k))], []⟩ := by
  intro m
  induction m with
  | zero =>
    intro k n h0 h1 h2
    obtain rfl : k = 2000 := by omega
    have : n = daysV y 1 1 := by rw [h2, show daysV 2000 1 1 = 0 from rfl]; omega
    subst this
    refine loop_unroll ?_
    refine DecK.dec (fun h => by omega) (fun h => ?_)
    exact hQ _ _
  | succ m ih =>
    intro k n h0 h1 h2
    have hb := fd_bounds k (by omega)
    have hc := fd_bounds y (by omega)
    have hs := fd_succ k (by omega)
    refine loop_unroll ?_
    refine DecK.dec (fun h => ?_) (fun h => by omega)
    refine CallK.mk _ (leapYear_ok _) rfl ?_
    refine DecK.dec (fun h => ?_) (fun h => ?_)
    · rw [if_pos h] at hs
      refine ih _ _ ?_ ?_ ?_ <;> rw [w64 (n := k + 1) (by omega)]
      · omega
      · omega
      · rw [hs]; simp (discharger := omega) only [w64, wu64, wu8, w32, wu32, tdivC, tmodC]; omega
    · rw [if_neg h] at hs
      refine ih _ _ ?_ ?_ ?_ <;> rw [w64 (n := k + 1) (by omega)]
      · omega
      · omega
      · rw [hs]; simp (discharger := omega) only [w64, wu64, wu8, w32, wu32, tdivC, tmodC]; omega
theorem firstDay_ok (y : Int) (hy : 1 ≤ y ∧ y ≤ 20000) : Pure Tryd.prog 71 [.n .i64 y] (.n .i64 (daysV y 1 1)) := by
  refine pure_of_wp of71 (Nat.le_of_ble_eq_true rfl) ?_
  by_cases h : 2000 ≤ y
  · refine firstDay_up y hy.2 (fun k' b => ?_) (y - 2000).toNat _ _ (by omega) (by omega) rfl
    refine loop_unroll ?_
    refine DecK.dec (fun h => by omega) (fun h => ?_)
    refine endV (by rfl) rfl
  · refine loop_unroll ?_
    refine DecK.dec (fun h => by omega) (fun h => ?_)
    refine firstDay_down y hy.1 (fun k' b => ?_) (2000 - y).toNat _ _ (by omega) (by omega) (by omega)
    refine endV (by rfl) rfl
def okDate (y m d : Int) : Prop := 1 ≤ y ∧ y ≤ 9999 ∧ 1 ≤ m ∧ m ≤ 12 ∧ 1 ≤ d ∧ d ≤ mlen y m
instance (y m d : Int) : Decidable (okDate y m d) := by unfold okDate; infer_instance
theorem mlen_bounds (y m : Int) : 28 ≤ mlen y m ∧ mlen y m ≤ 31 := by unfold mlen; omega
theorem month_bounds (y m : Int) (h : 1 ≤ y ∧ y ≤ 20000) (hm : 1 ≤ m ∧ m ≤ 12) : -1000000 ≤ daysV y m 1 ∧ daysV y m 1 ≤ 9000000 := by
  simp (discharger := omega) only [daysV, daysF, tdivC]
  omega
theorem dayNumber_loop {Q : Exit → St → Prop} (y m d : Int) (hy : 1 ≤ y ∧ y ≤ 9999) (hm : m ≤ 12) (hQ : ∀ k' b, Q (.exit 0) ⟨[(0, .v (.n .i64 y)), (1, .v (.n .i64 m)), (2, .v (.n .i64 d)), (8, .v (.n .i64 (daysV y m 1))), (9, .v (.n .i64 k')), (39, .v (.b b))], []⟩) : ∀ (j : Nat) (k n : Int), 1 ≤ k → k + j = m → n = daysV y k 1 →
    loopW Tryd.prog [0, 1, 2, 8, 9] L53_0 Q ⟨[(0, .v (.n .i64 y)), (1, .v (.n .i64 m)), (2, .v (.n .i64 d)), (8, .v (.n .i64 n)), (9, .v (.n .i64 k))], []⟩ := by
  intro j
  induction j with
  | zero =>
    intro k n h0 h1 h2
    obtain rfl : k = m := by omega
    subst h2
    refine loop_unroll ?_
    refine DecK.dec (fun h => by omega) (fun h => ?_)
    exact hQ _ _
  | succ j ih =>
    intro k n h0 h1 h2
    have hs := month_succ y k (by omega) (by omega)
    have hb := month_bounds y k (by omega) (by omega)
    have hl := mlen_bounds y k
    refine loop_unroll ?_
    refine DecK.dec (fun h => ?_) (fun h => by omega)
    refine CallK.mk _ (monthDays_ok _ _ (by omega)) rfl ?_
    refine ih _ _ ?_ ?_ ?_ <;> rw [w64 (n := k + 1) (by omega)]
    · omega
    · omega
    · rw [hs]; simp (discharger := omega) only [w64, wu64, wu8, w32, wu32, tdivC, tmodC]; omega
theorem dayNumber_ok (y m d : Int) : Pure Tryd.prog 53 [.n .i64 y, .n .i64 m, .n .i64 d] (.tup [.n .i64 (if okDate y m d then daysV y m d else 0), .n .i64 (if okDate y m d then 0 else 4)]) := by
  refine pure_of_wp of53 (Nat.le_of_ble_eq_true rfl) ?_
  repeat' first | refine DecK.tt ?_ | refine DecK.ff ?_ | refine DecK.beq (fun _ => ?_) (fun _ => ?_) | refine DecK.bne (fun _ => ?_) (fun _ => ?_) | refine DecK.dec (fun _ => ?_) (fun _ => ?_) | refine OptK.mk _ rfl ?_ | refine endV (by rfl) ?_ | (refine CallK.mk _ (monthDays_ok _ _ (by omega)) rfl ?_) | (refine CallK.mk _ (firstDay_ok _ (by omega)) rfl ?_)
  case' refine_2.refine_2.refine_2.refine_2.refine_2.refine_2 =>
    have ok : okDate y m d := by unfold okDate; omega
    have hd := daysV_d y m d
    have hb := month_bounds y m (by omega) (by omega)
    have hl := mlen_bounds y m
    refine dayNumber_loop y m d (by omega) (by omega) (fun k' b => ?_) (m - 1).toNat _ _ (by omega) (by omega) rfl
    refine endV (by rfl) ?_
    simp only [ok, if_true]
    simp only [V.tup.injEq, V.agg.injEq, V.n.injEq, V.b.injEq, V.s.injEq, List.cons.injEq, true_and, and_true]
    rw [hd]; simp (discharger := omega) only [w64, wu64, wu8, w32, wu32, tdivC, tmodC]
  all_goals
    have ok : ¬ okDate y m d := by unfold okDate; omega
    simp only [ok, if_false]
theorem days_okV (y m d : Int) (hy : -20000 ≤ y ∧ y ≤ 20000) (hm : 1 ≤ m ∧ m ≤ 12) (hd : -1000000000 ≤ d ∧ d ≤ 1000000000) : Pure Tryd.prog 60 [.n .i64 y, .n .i64 m, .n .i64 d] (.n .i64 (daysV y m d)) := days_ok y m d hy hm hd
theorem daysDate_ok (y m d : Int) : Pure Tryd.prog 51 [.n .i64 y, .n .i64 m, .n .i64 d] (.tup [.n .i64 (if okDate y m d then daysV y m d else 0), .n .i64 (if okDate y m d then 0 else 4)]) := by
  refine pure_of_wp of51 (Nat.le_of_ble_eq_true rfl) ?_
  have hl := mlen_bounds y m
  repeat' first | refine DecK.tt ?_ | refine DecK.ff ?_ | refine DecK.beq (fun _ => ?_) (fun _ => ?_) | refine DecK.bne (fun _ => ?_) (fun _ => ?_) | refine DecK.dec (fun _ => ?_) (fun _ => ?_) | refine OptK.mk _ rfl ?_ | refine endV (by rfl) ?_ | (refine CallK.mk _ (length_ok _ _) rfl ?_) | (refine CallK.mk _ (days_ok _ _ _ (by omega) (by omega) (by omega)) rfl ?_)
  all_goals first
    | (have ok : ¬ okDate y m d := by unfold okDate; omega
       simp only [ok, if_false]
       done)
    | (have ok : okDate y m d := by unfold okDate; omega
       simp only [ok, if_true]
       done)
end Go.Proofs.YtljcbmnkjiogmaaDoor.Sv

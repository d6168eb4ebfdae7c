/- Calendar: dates of numbers of days. No condition. -/
import Derived.Test.YtkmlnmbhlkhgpaaTb
namespace Go.Proofs.Ytkmlnmbhlkhgpaa.Sv
open Go Go.RowKit
set_option linter.unusedVariables false
set_option linter.unusedSimpArgs false
set_option maxRecDepth 100000
/-- live: [0, 6, 7] -/
def L24_0 : SC := .seq (.seq (.reg [⟨some 38, none, .mv, [.tm 6]⟩, ⟨some 39, none, .mv, [.tm 7]⟩, ⟨some 40, none, .call 78, [.tm 38, .tm 39, .cn (.n .i64 1)]⟩, ⟨some 41, none, .mv, [.tm 0]⟩, ⟨some 42, none, .po (.bin .gtr), [.tm 40, .tm 41]⟩] [0, 6, 7, 42]) (.cond (.tm 42) .skip (.exit 4))) (.block 5 (.reg [⟨some 43, none, .mv, [.tm 7]⟩, ⟨some 44, none, .po (.bin .sub), [.tm 43, .cn (.n .i64 1)]⟩, ⟨some 7, none, .mv, [.tm 44]⟩] [0, 6, 7]))
/-- live: [0, 6] -/
def L24_1 : SC := .seq (.seq (.reg [⟨some 32, none, .mv, [.tm 6]⟩, ⟨some 33, none, .call 78, [.tm 32, .cn (.n .i64 1), .cn (.n .i64 1)]⟩, ⟨some 34, none, .mv, [.tm 0]⟩, ⟨some 35, none, .po (.bin .gtr), [.tm 33, .tm 34]⟩] [0, 6, 35]) (.cond (.tm 35) .skip (.exit 2))) (.block 3 (.reg [⟨some 36, none, .mv, [.tm 6]⟩, ⟨some 37, none, .po (.bin .sub), [.tm 36, .cn (.n .i64 1)]⟩, ⟨some 6, none, .mv, [.tm 37]⟩] [0, 6]))
/-- live: [0, 6] -/
def L24_2 : SC := .seq (.seq (.reg [⟨some 21, none, .mv, [.tm 6]⟩, ⟨some 22, none, .po (.bin .lss), [.tm 21, .cn (.n .i64 9999)]⟩, ⟨some 23, none, .mv, [.tm 22]⟩, ⟨some 24, some (23, true), .mv, [.tm 6]⟩, ⟨some 25, some (23, true), .po (.bin .add), [.tm 24, .cn (.n .i64 1)]⟩, ⟨some 26, some (23, true), .call 78, [.tm 25, .cn (.n .i64 1), .cn (.n .i64 1)]⟩, ⟨some 27, some (23, true), .mv, [.tm 0]⟩, ⟨some 28, some (23, true), .po (.bin .leq), [.tm 26, .tm 27]⟩, ⟨some 29, none, .pick, [.tm 23, .tm 28, .cn (.b false)]⟩] [0, 6, 29]) (.cond (.tm 29) .skip (.exit 0))) (.block 1 (.reg [⟨some 30, none, .mv, [.tm 6]⟩, ⟨some 31, none, .po (.bin .add), [.tm 30, .cn (.n .i64 1)]⟩, ⟨some 6, none, .mv, [.tm 31]⟩] [0, 6]))
/-- spyglass/scale.Date -/
def F24 : Fn1 := ⟨53, .seq (.reg [⟨some 2, none, .mv, [.cn (.n .i64 0)]⟩, ⟨some 3, none, .mv, [.cn (.n .i64 0)]⟩, ⟨some 4, none, .mv, [.cn (.n .i64 0)]⟩, ⟨some 5, none, .mv, [.cn (.n .i64 0)]⟩] [0]) (.seq (.seq (.reg [⟨some 8, none, .mv, [.tm 0]⟩, ⟨some 9, none, .call 78, [.cn (.n .i64 1), .cn (.n .i64 1), .cn (.n .i64 1)]⟩, ⟨some 10, none, .po (.bin .lss), [.tm 8, .tm 9]⟩, ⟨some 11, none, .mv, [.tm 10]⟩, ⟨some 12, some (11, false), .mv, [.tm 0]⟩, ⟨some 13, some (11, false), .call 78, [.cn (.n .i64 9999), .cn (.n .i64 12), .cn (.n .i64 31)]⟩, ⟨some 14, some (11, false), .po (.bin .gtr), [.tm 12, .tm 13]⟩, ⟨some 15, none, .pick, [.tm 11, .cn (.b true), .tm 14]⟩] [0, 15]) (.cond (.tm 15) (.seq (.reg [⟨some 2, none, .mv, [.cn (.n .i64 0)]⟩, ⟨some 3, none, .mv, [.cn (.n .i64 0)]⟩, ⟨some 4, none, .mv, [.cn (.n .i64 0)]⟩, ⟨some 5, none, .mv, [.cn (.n .i64 4)]⟩] [2, 3, 4, 5]) .ret) .skip)) (.seq (.reg [⟨some 16, none, .mv, [.tm 0]⟩, ⟨some 17, none, .po (.bin .quo), [.tm 16, .cn (.n .i64 366)]⟩, ⟨some 18, none, .po (.bin .add), [.cn (.n .i64 2000), .tm 17]⟩, ⟨some 19, none, .po .mx, [.cn (.n .i64 1), .tm 18]⟩, ⟨some 20, none, .po .mn, [.cn (.n .i64 9999), .tm 19]⟩, ⟨some 6, none, .mv, [.tm 20]⟩] [0, 6]) (.seq (.block 0 (.loop [0, 6] L24_2)) (.seq (.block 2 (.loop [0, 6] L24_1)) (.seq (.reg [⟨some 7, none, .mv, [.cn (.n .i64 12)]⟩] [0, 6, 7]) (.seq (.block 4 (.loop [0, 6, 7] L24_0)) (.seq (.reg [⟨some 45, none, .mv, [.tm 6]⟩, ⟨some 46, none, .mv, [.tm 7]⟩, ⟨some 47, none, .mv, [.tm 0]⟩, ⟨some 48, none, .mv, [.tm 6]⟩, ⟨some 49, none, .mv, [.tm 7]⟩, ⟨some 50, none, .call 78, [.tm 48, .tm 49, .cn (.n .i64 1)]⟩, ⟨some 51, none, .po (.bin .sub), [.tm 47, .tm 50]⟩, ⟨some 52, none, .po (.bin .add), [.tm 51, .cn (.n .i64 1)]⟩, ⟨some 2, none, .mv, [.tm 45]⟩, ⟨some 3, none, .mv, [.tm 46]⟩, ⟨some 4, none, .mv, [.tm 52]⟩, ⟨some 5, none, .mv, [.cn (.n .i64 0)]⟩] [2, 3, 4, 5]) .ret))))))), [.tm 2, .tm 3, .tm 4, .tm 5]⟩
theorem of24 : Fn1.of Try.prog 24 false [[0], [0, 15], [2, 3, 4, 5], [0, 6], [0, 6], [0, 6, 29], [0, 6], [0, 6], [0, 6, 35], [0, 6], [0, 6, 7], [0, 6, 7], [0, 6, 7, 42], [0, 6, 7], [2, 3, 4, 5]] = some F24 := by kernel_rfl
/-- live: [0, 6, 8] -/
def L25_0 : SC := .seq (.seq (.reg [⟨some 39, none, .mv, [.tm 0]⟩, ⟨some 40, none, .mv, [.tm 6]⟩, ⟨some 41, none, .mv, [.tm 8]⟩, ⟨some 42, none, .call 83, [.tm 40, .tm 41]⟩, ⟨some 43, none, .po (.bin .geq), [.tm 39, .tm 42]⟩] [0, 6, 8, 43]) (.cond (.tm 43) .skip (.exit 4))) (.block 5 (.reg [⟨some 44, none, .mv, [.tm 0]⟩, ⟨some 45, none, .mv, [.tm 6]⟩, ⟨some 46, none, .mv, [.tm 8]⟩, ⟨some 47, none, .call 83, [.tm 45, .tm 46]⟩, ⟨some 48, none, .po (.bin .sub), [.tm 44, .tm 47]⟩, ⟨some 49, none, .mv, [.tm 8]⟩, ⟨some 50, none, .po (.bin .add), [.tm 49, .cn (.n .i64 1)]⟩, ⟨some 0, none, .mv, [.tm 48]⟩, ⟨some 8, none, .mv, [.tm 50]⟩] [0, 6, 8]))
/-- live: [0, 6, 7] -/
def L25_1 : SC := .seq (.block 3 (.seq (.seq (.reg [⟨some 27, none, .mv, [.tm 6]⟩, ⟨some 28, none, .call 85, [.tm 27]⟩] [0, 6, 7, 28]) (.cond (.tm 28) (.reg [⟨some 29, none, .mv, [.tm 7]⟩, ⟨some 30, none, .po (.bin .add), [.tm 29, .cn (.n .i64 1)]⟩, ⟨some 7, none, .mv, [.tm 30]⟩] [0, 6, 7]) .skip)) (.seq (.seq (.reg [⟨some 31, none, .mv, [.tm 0]⟩, ⟨some 32, none, .mv, [.tm 7]⟩, ⟨some 33, none, .po (.bin .lss), [.tm 31, .tm 32]⟩] [0, 6, 7, 33]) (.cond (.tm 33) (.exit 2) .skip)) (.reg [⟨some 34, none, .mv, [.tm 0]⟩, ⟨some 35, none, .mv, [.tm 7]⟩, ⟨some 36, none, .po (.bin .sub), [.tm 34, .tm 35]⟩, ⟨some 37, none, .mv, [.tm 6]⟩, ⟨some 38, none, .po (.bin .add), [.tm 37, .cn (.n .i64 1)]⟩, ⟨some 0, none, .mv, [.tm 36]⟩, ⟨some 6, none, .mv, [.tm 38]⟩] [0, 6])))) (.reg [⟨some 7, none, .mv, [.cn (.n .i64 365)]⟩] [0, 6, 7])
/-- live: [0, 6] -/
def L25_2 : SC := .seq (.seq (.reg [⟨some 17, none, .mv, [.tm 0]⟩, ⟨some 18, none, .po (.bin .lss), [.tm 17, .cn (.n .i64 0)]⟩] [0, 6, 18]) (.cond (.tm 18) .skip (.exit 0))) (.block 1 (.seq (.reg [⟨some 19, none, .mv, [.tm 6]⟩, ⟨some 20, none, .po (.bin .sub), [.tm 19, .cn (.n .i64 1)]⟩, ⟨some 6, none, .mv, [.tm 20]⟩] [0, 6]) (.seq (.reg [⟨some 21, none, .mv, [.tm 0]⟩, ⟨some 22, none, .po (.bin .add), [.tm 21, .cn (.n .i64 365)]⟩, ⟨some 0, none, .mv, [.tm 22]⟩] [0, 6]) (.seq (.reg [⟨some 23, none, .mv, [.tm 6]⟩, ⟨some 24, none, .call 85, [.tm 23]⟩] [0, 6, 24]) (.cond (.tm 24) (.reg [⟨some 25, none, .mv, [.tm 0]⟩, ⟨some 26, none, .po (.bin .add), [.tm 25, .cn (.n .i64 1)]⟩, ⟨some 0, none, .mv, [.tm 26]⟩] [0, 6]) .skip)))))
/-- spyglass/spyref1.DateOf -/
def F25 : Fn1 := ⟨55, .seq (.reg [⟨some 2, none, .mv, [.cn (.n .i64 0)]⟩, ⟨some 3, none, .mv, [.cn (.n .i64 0)]⟩, ⟨some 4, none, .mv, [.cn (.n .i64 0)]⟩, ⟨some 5, none, .mv, [.cn (.n .i64 0)]⟩] [0]) (.seq (.seq (.reg [⟨some 9, none, .mv, [.tm 0]⟩, ⟨some 10, none, .call 84, [.cn (.n .i64 1)]⟩, ⟨some 11, none, .po (.bin .lss), [.tm 9, .tm 10]⟩, ⟨some 12, none, .mv, [.tm 11]⟩, ⟨some 13, some (12, false), .mv, [.tm 0]⟩, ⟨some 14, some (12, false), .call 84, [.cn (.n .i64 10000)]⟩, ⟨some 15, some (12, false), .po (.bin .geq), [.tm 13, .tm 14]⟩, ⟨some 16, none, .pick, [.tm 12, .cn (.b true), .tm 15]⟩] [0, 16]) (.cond (.tm 16) (.seq (.reg [⟨some 2, none, .mv, [.cn (.n .i64 0)]⟩, ⟨some 3, none, .mv, [.cn (.n .i64 0)]⟩, ⟨some 4, none, .mv, [.cn (.n .i64 0)]⟩, ⟨some 5, none, .mv, [.cn (.n .i64 4)]⟩] [2, 3, 4, 5]) .ret) .skip)) (.seq (.reg [⟨some 6, none, .mv, [.cn (.n .i64 2000)]⟩] [0, 6]) (.seq (.block 0 (.loop [0, 6] L25_2)) (.seq (.seq (.reg [⟨some 7, none, .mv, [.cn (.n .i64 365)]⟩] [0, 6, 7]) (.block 2 (.loop [0, 6, 7] L25_1))) (.seq (.reg [⟨some 8, none, .mv, [.cn (.n .i64 1)]⟩] [0, 6, 8]) (.seq (.block 4 (.loop [0, 6, 8] L25_0)) (.seq (.reg [⟨some 51, none, .mv, [.tm 6]⟩, ⟨some 52, none, .mv, [.tm 8]⟩, ⟨some 53, none, .mv, [.tm 0]⟩, ⟨some 54, none, .po (.bin .add), [.tm 53, .cn (.n .i64 1)]⟩, ⟨some 2, none, .mv, [.tm 51]⟩, ⟨some 3, none, .mv, [.tm 52]⟩, ⟨some 4, none, .mv, [.tm 54]⟩, ⟨some 5, none, .mv, [.cn (.n .i64 0)]⟩] [2, 3, 4, 5]) .ret))))))), [.tm 2, .tm 3, .tm 4, .tm 5]⟩
theorem of25 : Fn1.of Try.prog 25 false [[0], [0, 16], [2, 3, 4, 5], [0, 6], [0, 6], [0, 6, 18], [0, 6], [0, 6], [0, 6, 24], [0, 6], [0, 6, 7], [0, 6, 7], [0, 6, 7, 28], [0, 6, 7], [0, 6, 7, 33], [0, 6], [0, 6, 7], [0, 6, 8], [0, 6, 8], [0, 6, 8, 43], [0, 6, 8], [2, 3, 4, 5]] = some F25 := by kernel_rfl

theorem fd_lt {a b : Int} (ha : 1 ≤ a) (h : a < b) : daysV a 1 1 + 300 ≤ daysV b 1 1 := by
  simp (discharger := omega) only [daysV, daysF, tdivC]
  omega
theorem fd_le {a b : Int} (ha : 1 ≤ a) (h : a ≤ b) : daysV a 1 1 ≤ daysV b 1 1 := by
  by_cases e : a = b
  · subst e; omega
  · have := fd_lt ha (show a < b by omega); omega
theorem md_le {y a b : Int} (hy : 1 ≤ y) (ha : 1 ≤ a) (hb : b ≤ 12) (h : a ≤ b) : daysV y a 1 ≤ daysV y b 1 := by
  by_cases e : a = b
  · subst e; omega
  · have : daysV y a 1 + 20 ≤ daysV y b 1 := by
      simp (discharger := omega) only [daysV, daysF, tdivC]
      omega
    omega
theorem md_lt {y a b : Int} (hy : 1 ≤ y) (ha : 1 ≤ a) (hb : b ≤ 12) (h : a < b) : daysV y a 1 + 20 ≤ daysV y b 1 := by
  simp (discharger := omega) only [daysV, daysF, tdivC]
  omega
theorem dec_end {y : Int} (hy : 1 ≤ y) : daysV y 12 1 + 31 = daysV (y + 1) 1 1 := by
  simp (discharger := omega) only [daysV, daysF, tdivC]
  omega
theorem md_in {y m d : Int} (h : okDate y m d) : daysV y m 1 ≤ daysV y m d ∧ daysV y m d < daysV y m 1 + mlen y m ∧ daysV y m 1 + mlen y m ≤ daysV (y + 1) 1 1 ∧ daysV y 1 1 ≤ daysV y m 1 := by
  have hd := daysV_d y m d
  obtain ⟨h1, h2, h3, h4, h5, h6⟩ := h
  refine ⟨by omega, by omega, ?_, ?_⟩
  · by_cases hm : m = 12
    · subst hm; have := dec_end h1; have : mlen y 12 = 31 := by simp [mlen]
      omega
    · have := month_succ y m h1 (by omega)
      have := dec_end h1
      by_cases hm' : m = 11
      · subst hm'; simp at *; omega
      · have := md_lt (y := y) (a := m + 1) (b := 12) h1 (by omega) (by omega) (by omega); omega
  · by_cases hm : m = 1
    · subst hm; omega
    · have := md_lt (y := y) (a := 1) (b := m) h1 (by omega) (by omega) (by omega); omega
theorem date_up {Q : Exit → St → Prop} {y n : Int} (hy : 1 ≤ y ∧ y ≤ 9999) (hn : daysV y 1 1 ≤ n ∧ n < daysV (y + 1) 1 1) (hQ : ∀ y' b, y ≤ y' → y' ≤ 9999 → Q (.exit 0) ⟨[(0, .v (.n .i64 n)), (6, .v (.n .i64 y')), (29, .v (.b b))], []⟩) : ∀ (j : Nat) (y' : Int), 1 ≤ y' → y' ≤ 9999 → y ≤ y' + j →
    loopW Try.prog [0, 6] L24_2 Q ⟨[(0, .v (.n .i64 n)), (6, .v (.n .i64 y'))], []⟩ := by
  intro j
  induction j with
  | zero =>
    intro y' h1 h2 h3
    refine loop_unroll ?_
    refine DecK.dec (fun h => ?_) (fun h => ?_)
    · refine CallK.mk _ (days_ok _ _ _ (by rw [w64 (by omega)]; omega) (by omega) (by omega)) rfl ?_
      refine DecK.dec (fun h => ?_) (fun h => ?_)
      · rw [w64 (by omega)] at h
        have := fd_le (a := y + 1) (b := y' + 1) (by omega) (by omega)
        omega
      · exact hQ _ _ (by omega) h2
    · exact DecK.ff (hQ _ _ (by omega) h2)
  | succ j ih =>
    intro y' h1 h2 h3
    refine loop_unroll ?_
    refine DecK.dec (fun h => ?_) (fun h => ?_)
    · refine CallK.mk _ (days_ok _ _ _ (by rw [w64 (by omega)]; omega) (by omega) (by omega)) rfl ?_
      rw [w64 (n := y' + 1) (by omega)]
      refine DecK.dec (fun h => ?_) (fun h => ?_)
      · refine ih _ ?_ ?_ ?_ <;> rw [w64 (by omega)] <;> omega
      · refine hQ _ _ ?_ h2
        by_cases e : y' + 1 ≤ y
        · have := fd_le (a := y' + 1) (b := y) (by omega) e
          omega
        · omega
    · exact DecK.ff (hQ _ _ (by omega) h2)
theorem date_down {Q : Exit → St → Prop} {y n : Int} (hy : 1 ≤ y ∧ y ≤ 9999) (hn : daysV y 1 1 ≤ n ∧ n < daysV (y + 1) 1 1) (hQ : ∀ b, Q (.exit 2) ⟨[(0, .v (.n .i64 n)), (6, .v (.n .i64 y)), (35, .v (.b b))], []⟩) : ∀ (j : Nat) (y' : Int), y' ≤ 9999 → y' = y + j →
    loopW Try.prog [0, 6] L24_1 Q ⟨[(0, .v (.n .i64 n)), (6, .v (.n .i64 y'))], []⟩ := by
  intro j
  induction j with
  | zero =>
    intro y' h2 h3
    obtain rfl : y' = y := by omega
    refine loop_unroll ?_
    refine CallK.mk _ (days_ok _ _ _ (by omega) (by omega) (by omega)) rfl ?_
    refine DecK.dec (fun h => by omega) (fun h => ?_)
    exact hQ _
  | succ j ih =>
    intro y' h2 h3
    have := fd_le (a := y + 1) (b := y') (by omega) (by omega)
    refine loop_unroll ?_
    refine CallK.mk _ (days_ok _ _ _ (by omega) (by omega) (by omega)) rfl ?_
    refine DecK.dec (fun h => ?_) (fun h => ?_)
    · refine ih _ ?_ ?_ <;> rw [w64 (by omega)] <;> omega
    · omega
theorem date_month {Q : Exit → St → Prop} {y m n : Int} (hy : 1 ≤ y ∧ y ≤ 9999) (hm : 1 ≤ m ∧ m ≤ 12) (hn : daysV y m 1 ≤ n ∧ n < daysV y m 1 + mlen y m) (hQ : ∀ b, Q (.exit 4) ⟨[(0, .v (.n .i64 n)), (6, .v (.n .i64 y)), (7, .v (.n .i64 m)), (42, .v (.b b))], []⟩) : ∀ (j : Nat) (m' : Int), m' ≤ 12 → m' = m + j →
    loopW Try.prog [0, 6, 7] L24_0 Q ⟨[(0, .v (.n .i64 n)), (6, .v (.n .i64 y)), (7, .v (.n .i64 m'))], []⟩ := by
  intro j
  induction j with
  | zero =>
    intro m' h2 h3
    obtain rfl : m' = m := by omega
    refine loop_unroll ?_
    refine CallK.mk _ (days_ok _ _ _ (by omega) (by omega) (by omega)) rfl ?_
    refine DecK.dec (fun h => by omega) (fun h => ?_)
    exact hQ _
  | succ j ih =>
    intro m' h2 h3
    have h4 := month_succ y m (by omega) (by omega)
    have := md_le (y := y) (a := m + 1) (b := m') (by omega) (by omega) (by omega) (by omega)
    refine loop_unroll ?_
    refine CallK.mk _ (days_ok _ _ _ (by omega) (by omega) (by omega)) rfl ?_
    refine DecK.dec (fun h => ?_) (fun h => ?_)
    · refine ih _ ?_ ?_ <;> rw [w64 (by omega)] <;> omega
    · omega
theorem first_val : daysV 1 1 1 = -730119 := rfl
theorem last_val : daysV 10000 1 1 = 2921940 := rfl
theorem date_ok {y m d : Int} (h : okDate y m d) : Pure Try.prog 24 [.n .i64 (daysV y m d)] (.tup [.n .i64 y, .n .i64 m, .n .i64 d, .n .i64 0]) := by
  have hi := md_in h
  have hd := daysV_d y m d
  obtain ⟨h1, h2, h3, h4, h5, h6⟩ := h
  have e1 := first_val
  have e2 := last_val
  have a1 := fd_le (a := 1) (b := y) (by omega) (by omega)
  have a2 := fd_le (a := y + 1) (b := 10000) (by omega) (by omega)
  have hl := mlen_bounds y m
  refine pure_of_wp of24 (Nat.le_of_ble_eq_true rfl) ?_
  generalize hN : daysV y m d = n at *
  refine CallK.mk _ (days_ok _ _ _ (by omega) (by omega) (by omega)) rfl ?_
  refine DecK.dec (fun h => by omega) (fun h => ?_)
  refine CallK.mk _ (days_ok _ _ _ (by omega) (by omega) (by omega)) rfl ?_
  refine DecK.dec (fun h => ?_) (fun h => ?_)
  · have : daysV 9999 12 31 = 2921939 := rfl
    omega
  · have ht : n.tdiv 366 = if 0 ≤ n then n / 366 else -(-n / 366) := tdivC (by omega)
    have hb : -1000000 ≤ n.tdiv 366 ∧ n.tdiv 366 ≤ 1000000 := by rw [ht]; omega
    have hq : IntKind.i64.wrap (2000 + IntKind.i64.wrap (n.tdiv 366)) = 2000 + n.tdiv 366 := by rw [w64 (n := n.tdiv 366) (by omega), w64 (by omega)]
    refine date_up (y := y) ⟨h1, h2⟩ (by omega) (fun y' b g1 g2 => ?_) 10000 _ (by simp only [hq]; omega) (by simp only [hq]; omega) (by simp only [hq]; omega)
    refine date_down (y := y) ⟨h1, h2⟩ (by omega) (fun b => ?_) (y' - y).toNat _ g2 (by omega)
    refine date_month (y := y) (m := m) ⟨h1, h2⟩ ⟨h3, h4⟩ (by omega) (fun b => ?_) (12 - m).toNat _ (by omega) (by omega)
    refine CallK.mk _ (days_ok _ _ _ (by omega) (by omega) (by omega)) rfl ?_
    refine endV (by rfl) ?_
    simp only [V.tup.injEq, V.agg.injEq, V.n.injEq, V.b.injEq, V.s.injEq, List.cons.injEq, true_and, and_true]
    have hb1 := fd_bounds y (by omega)
    simp (discharger := omega) only [w64, wu64, wu8, w32, wu32, tdivC, tmodC]
    omega
theorem date_out {n : Int} (h : n < daysV 1 1 1 ∨ daysV 10000 1 1 ≤ n) : Pure Try.prog 24 [.n .i64 n] (.tup [.n .i64 0, .n .i64 0, .n .i64 0, .n .i64 4]) := by
  have e1 := first_val
  have e2 := last_val
  have e3 : daysV 9999 12 31 = 2921939 := rfl
  refine pure_of_wp of24 (Nat.le_of_ble_eq_true rfl) ?_
  refine CallK.mk _ (days_ok _ _ _ (by omega) (by omega) (by omega)) rfl ?_
  refine DecK.dec (fun h => ?_) (fun h => ?_)
  · refine DecK.tt ?_
    exact endV (by rfl) rfl
  · refine CallK.mk _ (days_ok _ _ _ (by omega) (by omega) (by omega)) rfl ?_
    refine DecK.dec (fun h => ?_) (fun h => by omega)
    exact endV (by rfl) rfl
end Go.Proofs.Ytkmlnmbhlkhgpaa.Sv

/- Calendar: dates of numbers of days. No condition. -/
import Derived.Test.YtljcbmnkjiogmaaDoorTb
namespace Go.Proofs.YtljcbmnkjiogmaaDoor.Sv
open Go Go.RowKit
set_option linter.unusedVariables false
set_option linter.unusedSimpArgs false
set_option maxRecDepth 100000
theorem fd_lt {a b : Int} (ha : 1 ≤ a) (h : a < b) : daysV a 1 1 + 300 ≤ daysV b 1 1 := by
  simp (discharger := omega) only [daysV, daysF, tdivC]
  omega
theorem fd_le {a b : Int} (ha : 1 ≤ a) (h : a ≤ b) : daysV a 1 1 ≤ daysV b 1 1 := by
  by_cases e : a = b
  · subst e; omega
  · have := fd_lt ha (show a < b by omega); omega
theorem md_le {y a b : Int} (hy : 1 ≤ y) (ha : 1 ≤ a) (hb : b ≤ 12) (h : a ≤ b) : daysV y a 1 ≤ daysV y b 1 := by
  by_cases e : a = b
  · subst e; omega
  · have : daysV y a 1 + 20 ≤ daysV y b 1 := by
      simp (discharger := omega) only [daysV, daysF, tdivC]
      omega
    omega
theorem md_lt {y a b : Int} (hy : 1 ≤ y) (ha : 1 ≤ a) (hb : b ≤ 12) (h : a < b) : daysV y a 1 + 20 ≤ daysV y b 1 := by
  simp (discharger := omega) only [daysV, daysF, tdivC]
  omega
theorem dec_end {y : Int} (hy : 1 ≤ y) : daysV y 12 1 + 31 = daysV (y + 1) 1 1 := by
  simp (discharger := omega) only [daysV, daysF, tdivC]
  omega
theorem md_in {y m d : Int} (h : okDate y m d) : daysV y m 1 ≤ daysV y m d ∧ daysV y m d < daysV y m 1 + mlen y m ∧ daysV y m 1 + mlen y m ≤ daysV (y + 1) 1 1 ∧ daysV y 1 1 ≤ daysV y m 1 := by
  have hd := daysV_d y m d
  obtain ⟨h1, h2, h3, h4, h5, h6⟩ := h
  refine ⟨by omega, by omega, ?_, ?_⟩
  · by_cases hm : m = 12
    · subst hm; have := dec_end h1; have : mlen y 12 = 31 := by simp [mlen]
      omega
    · have := month_succ y m h1 (by omega)
      have := dec_end h1
      by_cases hm' : m = 11
      · subst hm'; simp at *; omega
      · have := md_lt (y := y) (a := m + 1) (b := 12) h1 (by omega) (by omega) (by omega); omega
  · by_cases hm : m = 1
    · subst hm; omega
    · have := md_lt (y := y) (a := 1) (b := m) h1 (by omega) (by omega) (by omega); omega
theorem first_val : daysV 1 1 1 = -730119 := rfl
theorem last_val : daysV 10000 1 1 = 2921940 := rfl
end Go.Proofs.YtljcbmnkjiogmaaDoor.Sv

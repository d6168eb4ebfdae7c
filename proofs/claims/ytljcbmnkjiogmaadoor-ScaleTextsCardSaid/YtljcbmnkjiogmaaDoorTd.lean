/- Calendar: dates by the reference's counting. No condition. -/
import Derived.Test.YtljcbmnkjiogmaaDoorTc
namespace Go.Proofs.YtljcbmnkjiogmaaDoor.Sv
open Go Go.RowKit
set_option linter.unusedVariables false
set_option linter.unusedSimpArgs false
set_option maxRecDepth 100000

/-- Every number of the range is that of a date. -/
theorem date_ex {n : Int} (h : daysV 1 1 1 ≤ n ∧ n < daysV 10000 1 1) : ∃ y m d, okDate y m d ∧ daysV y m d = n := by
  have year : ∀ j : Nat, n < daysV ((j : Int) + 1) 1 1 → ∃ y : Int, 1 ≤ y ∧ y ≤ j ∧ daysV y 1 1 ≤ n ∧ n < daysV (y + 1) 1 1 := by
    intro j
    induction j with
    | zero => intro hj; simp at hj; omega
    | succ j ih =>
      intro hj
      by_cases e : n < daysV ((j : Int) + 1) 1 1
      · obtain ⟨y, g1, g2, g3⟩ := ih e
        exact ⟨y, g1, by omega, g3⟩
      · exact ⟨j + 1, by omega, by omega, by omega, by simpa using hj⟩
  obtain ⟨y, h1, h2, h3, h4⟩ := year 9999 (by simpa using h.2)
  have month : ∀ j : Nat, j ≤ 11 → n < daysV y (j + 1) 1 → ∃ m : Int, 1 ≤ m ∧ m ≤ j ∧ daysV y m 1 ≤ n ∧ n < daysV y m 1 + mlen y m := by
    intro j
    induction j with
    | zero => intro _ hj; simp at hj; omega
    | succ j ih =>
      intro hj1 hj
      by_cases e : n < daysV y ((j : Int) + 1) 1
      · obtain ⟨y, g1, g2, g3⟩ := ih (by omega) e
        exact ⟨y, g1, by omega, g3⟩
      · refine ⟨j + 1, by omega, by omega, by omega, ?_⟩
        have := month_succ y (j + 1) h1 (by omega)
        rw [← this]; simpa using hj
  have hm : ∃ m : Int, 1 ≤ m ∧ m ≤ 12 ∧ daysV y m 1 ≤ n ∧ n < daysV y m 1 + mlen y m := by
    by_cases e : n < daysV y 12 1
    · obtain ⟨m, g1, g2, g3⟩ := month 11 (by omega) (by simpa using e)
      exact ⟨m, g1, by omega, g3⟩
    · have := dec_end h1
      exact ⟨12, by omega, by omega, by omega, by rw [show mlen y 12 = 31 by simp [mlen]]; omega⟩
  obtain ⟨m, g1, g2, g3, g4⟩ := hm
  refine ⟨y, m, n - daysV y m 1 + 1, ⟨h1, by omega, g1, g2, by omega, by omega⟩, ?_⟩
  rw [daysV_d]; omega
end Go.Proofs.YtljcbmnkjiogmaaDoor.Sv

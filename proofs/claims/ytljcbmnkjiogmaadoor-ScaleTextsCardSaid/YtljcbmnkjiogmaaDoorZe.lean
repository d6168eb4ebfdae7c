/- The reference's whole numbers: quotients. No condition. -/
import Derived.Test.YtljcbmnkjiogmaaDoorZd
namespace Go.Proofs.YtljcbmnkjiogmaaDoor.Sv
open Go Go.RowKit
set_option linter.unusedVariables false
set_option linter.unusedSimpArgs false
set_option maxRecDepth 100000
theorem digs_one {n : Nat} (h0 : 1 ≤ n) (h : n ≤ 999999) : digs n = [(n : Int)] := by
  rw [digs_pos (by omega), show n / 1000000 = 0 by omega, digs_zero, show n % 1000000 = n by omega]
/-- A number of one digit, as it is written down. -/
theorem zOne {n : Int} (h : 1 ≤ n ∧ n ≤ 999999) (t : Bool) : VLe (.agg [.b false, .sl 1 [.n .i64 n] t]) (zV n) := by
  have e : digV n.natAbs = .sl 1 [.n .i64 n] false := by
    show V.sl (digs n.natAbs).length ((digs n.natAbs).flatMap ni) false = _
    rw [digs_one (by omega) (by omega)]
    simp
    omega
  have e2 : zV n = .agg [.b false, .sl 1 [.n .i64 n] false] := by rw [zV, zC, e]; simp; omega
  rw [e2]
  exact VLes.agg (.cons (.refl _) (.cons .loose .nil))
/-- The quotient and the rest, out of those of the absolute values. -/
theorem split_abs {a b q r : Int} (hb : b ≠ 0) (h : (a.natAbs : Int) = q * b.natAbs + r) (h0 : 0 ≤ r) (h1 : r < b.natAbs) :
    (if b < 0 then -(if a < 0 ∧ 0 < r then -q - 1 else if a < 0 then -q else q) else (if a < 0 ∧ 0 < r then -q - 1 else if a < 0 then -q else q)) = a / b ∧ (if a < 0 ∧ 0 < r then b.natAbs - r else r) = a % b := by
  obtain ⟨m, hm⟩ : ∃ m : Int, m = b.natAbs := ⟨_, rfl⟩
  rw [← hm] at h h1 ⊢
  have hp : 0 < m := by omega
  have key : a / m = (if a < 0 ∧ 0 < r then -q - 1 else if a < 0 then -q else q) ∧ a % m = (if a < 0 ∧ 0 < r then m - r else r) := by
    rw [Int.ediv_emod_unique hp]
    obtain ⟨p, hq⟩ : ∃ p, p = q * m := ⟨_, rfl⟩
    rw [← hq] at h
    have e1 : m * (-q - 1) = -p - m := by rw [hq]; grind
    have e2 : m * (-q) = -p := by rw [hq]; grind
    have e3 : m * q = p := by rw [hq]; grind
    refine ⟨?_, ?_, ?_⟩
    · split
      · rw [e1]; omega
      · split
        · rw [e2]; omega
        · rw [e3]; omega
    · split <;> omega
    · split <;> omega
  rw [← key.1, ← key.2]
  by_cases hb' : b < 0
  · have : b = -m := by omega
    subst this
    rw [if_pos hb', Int.ediv_neg, Int.emod_neg]
    exact ⟨rfl, rfl⟩
  · have : b = m := by omega
    subst this
    rw [if_neg hb']
    exact ⟨rfl, rfl⟩
theorem zNone : VLe (.agg [.b false, .sl 0 [] true]) (zV 0) := by
  have e2 : zV 0 = .agg [.b false, .sl 0 [] false] := by rw [zV, zC, digV, Int.natAbs_zero, digs_zero]; rfl
  rw [e2]
  exact VLes.agg (.cons (.refl _) (.cons .loose .nil))
end Go.Proofs.YtljcbmnkjiogmaaDoor.Sv

/- Angles: the reference's Eighth and Angle; the statement on Atan2. No condition. -/
import Derived.Test.YtciigfeecmnghaaRRRRGreatRRQd
namespace Go.Proofs.YtciigfeecmnghaaRRRRGreatRR.Sv
open Go Go.RowKit
set_option linter.unusedVariables false
set_option linter.unusedSimpArgs false
set_option maxRecDepth 100000
theorem pow2_le (k : Nat) : ∀ d : Nat, (2 : Int) ^ k ≤ 2 ^ (k + d)
  | 0 => Int.le_refl _
  | d + 1 => by
    have := pow2_le k d
    have h : (0 : Int) < 2 ^ (k + d) := Int.pow_pos (by decide)
    rw [← Nat.add_assoc, Int.pow_succ]
    omega
theorem icmp_le0 {a b : Int} : icmp a b ≤ 0 ↔ a ≤ b := by unfold icmp; split <;> (try split) <;> omega
/-- What the reference makes of an angle up to a quarter. -/
theorem atanF_ref (y x : Int) (h1 : ¬ (x < -4294967296 ∨ x > 4294967296 ∨ y < -4294967296 ∨ y > 4294967296)) {b : Int} (hb : b = if (x.natAbs : Int) < y.natAbs then 1073741824 - octA x.natAbs y.natAbs else octA y.natAbs x.natAbs) :
    atanF y x = if x < 0 ∧ y < 0 then b + 2147483648 else if x < 0 then 2147483648 - b else if y < 0 ∧ b > 0 then 4294967296 - b else b := by
  have o1 := octA_in (y.natAbs : Int) x.natAbs
  have o2 := octA_in (x.natAbs : Int) y.natAbs
  unfold atanF
  generalize octA (y.natAbs : Int) x.natAbs = A at *
  generalize octA (x.natAbs : Int) y.natAbs = B at *
  simp only
  by_cases h : (x.natAbs : Int) < y.natAbs
  · rw [if_pos h] at hb
    simp only [show ¬ ((y.natAbs : Int) ≤ x.natAbs) by omega, if_false]
    by_cases hx : x < 0 <;> by_cases hy : y < 0 <;> simp only [hx, hy, if_true, if_false, true_and, false_and, and_true, and_false] <;> (try split) <;> omega
  · rw [if_neg h] at hb
    simp only [show (y.natAbs : Int) ≤ x.natAbs by omega, if_true]
    by_cases hx : x < 0 <;> by_cases hy : y < 0 <;> simp only [hx, hy, if_true, if_false, true_and, false_and, and_true, and_false] <;> (try split) <;> omega
end Go.Proofs.YtciigfeecmnghaaRRRRGreatRR.Sv

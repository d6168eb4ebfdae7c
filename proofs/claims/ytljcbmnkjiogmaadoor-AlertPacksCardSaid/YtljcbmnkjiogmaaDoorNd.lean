/- Numbers of 64 bits: the rest of the program's package num but for roots. No condition. -/
import Derived.Test.YtljcbmnkjiogmaaDoorNc
namespace Go.Proofs.YtljcbmnkjiogmaaDoor.Sv
open Go Go.RowKit
set_option linter.unusedVariables false
set_option linter.unusedSimpArgs false
set_option maxRecDepth 100000
/-- Everything about a quotient of numbers of 64 bits, out of that of the absolute values. -/
theorem quo_all {a b : Int} (hb : 0 < b) : ∃ q r : Int, 0 ≤ q ∧ 0 ≤ r ∧ r < b ∧ q ≤ a.natAbs ∧ (0 < r → q + 1 ≤ a.natAbs) ∧
    ((a < 0 ∧ a.tdiv b = -q ∧ a.tmod b = -r ∧ a / b = (if 0 < r then -q - 1 else -q) ∧ a % b = (if 0 < r then b - r else 0) ∧ cdiv a b = -q ∧ rnd a b = (if 2 * r ≥ b then -q - 1 else -q)) ∨
     (0 ≤ a ∧ a.tdiv b = q ∧ a.tmod b = r ∧ a / b = q ∧ a % b = r ∧ cdiv a b = (if 0 < r then q + 1 else q) ∧ rnd a b = (if 2 * r ≥ b then q + 1 else q))) := by
  obtain ⟨x, hx⟩ : ∃ x : Int, x = a.natAbs := ⟨_, rfl⟩
  have e1 := Int.mul_ediv_add_emod x b
  have e2 := Int.emod_nonneg x (show b ≠ 0 by omega)
  have e3 := Int.emod_lt_of_pos x hb
  have e4 : 0 ≤ x / b := Int.ediv_nonneg (by omega) (by omega)
  have e5 : x / b ≤ x := Int.ediv_le_self b (by omega)
  have hs := split_abs (a := a) (b := b) (q := x / b) (r := x % b) (by omega) (by rw [Int.mul_comm, show (b.natAbs : Int) = b by omega]; omega) e2 (by omega)
  rw [if_neg (by omega), show (b.natAbs : Int) = b by omega] at hs
  have hs2 := split_abs (a := -a) (b := b) (q := x / b) (r := x % b) (by omega) (by rw [Int.mul_comm, show (b.natAbs : Int) = b by omega]; omega) e2 (by omega)
  rw [if_neg (by omega), show (b.natAbs : Int) = b by omega] at hs2
  have hr : (2 * x + b) / (2 * b) = if 2 * (x % b) ≥ b then x / b + 1 else x / b := by
    have h2 : 0 < 2 * b := by omega
    have := (Int.ediv_emod_unique (a := 2 * x + b) (b := 2 * b) (q := if 2 * (x % b) ≥ b then x / b + 1 else x / b) (r := if 2 * (x % b) ≥ b then 2 * (x % b) - b else 2 * (x % b) + b) h2).2 ⟨by
      split
      · have : 2 * b * (x / b + 1) = 2 * (b * (x / b)) + 2 * b := by grind
        omega
      · have : 2 * b * (x / b) = 2 * (b * (x / b)) := by grind
        omega, by split <;> omega, by split <;> omega⟩
    exact this.1
  have k1 : 0 < x % b → x / b + 1 ≤ x := fun h => by
    by_cases h0 : x / b < x
    · omega
    · exfalso
      have h1 : x / b = x := by omega
      rw [h1] at e1
      have : x * 1 ≤ x * b := Int.mul_le_mul_of_nonneg_left (by omega) (by omega)
      rw [Int.mul_comm x b] at this
      omega
  refine ⟨x / b, x % b, e4, e2, e3, by omega, fun h => by have := k1 h; omega, ?_⟩
  by_cases h1 : a < 0
  · have hxa : x = -a := by omega
    refine .inl ⟨h1, ?_, ?_, ?_, ?_, ?_, ?_⟩
    · rw [tdivC hb, if_neg (by omega), hxa]
    · rw [tmodC hb, if_neg (by omega), hxa]
    · rw [← hs.1]
      split <;> split <;> first | rfl | (exfalso; omega) | omega
    · rw [← hs.2]
      split <;> split <;> first | rfl | (exfalso; omega) | omega
    · rw [cdiv, ← hs2.1, if_neg (by omega), if_neg (by omega)]
    · rw [rnd, if_pos h1, show 2 * -a + b = 2 * x + b by omega, hr]
      split <;> omega
  · have hxa : x = a := by omega
    refine .inr ⟨by omega, ?_, ?_, ?_, ?_, ?_, ?_⟩
    · rw [tdivC hb, if_pos (by omega), hxa]
    · rw [tmodC hb, if_pos (by omega), hxa]
    · rw [hxa]
    · rw [hxa]
    · rw [cdiv, ← hs2.1]
      by_cases h3 : a = 0
      · have z1 : x = 0 := by omega
        rw [z1, Int.zero_ediv, Int.zero_emod] at *
        simp [h3]
      · split <;> split <;> first | rfl | (exfalso; omega) | (split <;> omega) | omega
    · rw [rnd, if_neg h1, show 2 * a + b = 2 * x + b by omega, hr]
/-- a * b / c, rounded up, as the program does it. -/
def upT (c x : Int) : List V := if c < 1 then [.n .i64 0, .n .i64 1] else if fits (x / c) ∧ fits (cdiv x c) then [.n .i64 (cdiv x c), .n .i64 0] else [.n .i64 0, .n .i64 2]
end Go.Proofs.YtljcbmnkjiogmaaDoor.Sv

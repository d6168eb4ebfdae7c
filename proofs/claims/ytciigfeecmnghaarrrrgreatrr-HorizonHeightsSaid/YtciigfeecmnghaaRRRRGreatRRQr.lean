/- The reference's real sines: what it computes. No condition. -/
import Derived.Test.YtciigfeecmnghaaRRRRGreatRRQc
import Derived.Test.YtciigfeecmnghaaRRRRGreatRRZh
import Derived.Test.YtciigfeecmnghaaRRRRGreatRRWc
namespace Go.Proofs.YtciigfeecmnghaaRRRRGreatRR.Sv
open Go Go.RowKit
set_option linter.unusedVariables false
set_option linter.unusedSimpArgs false
set_option maxRecDepth 100000
theorem two150 : Pure Tryz.prog 59 [.n .i64 150] (zV 1427247692705959881058285969449495136382746624) := Two_ok 150 (by decide)
theorem two31 : Pure Tryz.prog 59 [.n .i64 31] (zV 2147483648) := Two_ok 31 (by decide)
theorem zb_big {x : Int} (h : -1427247692705959881058285969449495136382746624000000000000000 ≤ x ∧ x ≤ 1427247692705959881058285969449495136382746624000000000000000) : zb 11 x := by
  unfold zb
  have e : (1000000 : Int) ^ 11 = 1000000000000000000000000000000000000000000000000000000000000000000 := by decide
  rw [e]
  omega
def atanL (n : Int) : Nat → Int → Int → Int → Int
  | 0, _, _, s => s
  | f + 1, k, t, s => if t > 0 then atanL n f (k + 2) (t / (n * n)) (if k % 4 = 1 then s + t / k else s - t / k) else s
theorem sgn_pos {t : Int} : sgn t > 0 ↔ 0 < t := by unfold sgn; split <;> (try split) <;> omega
theorem tmod4 {k : Int} (h : 0 ≤ k) : k.tmod 4 = k % 4 := Int.tmod_eq_emod_of_nonneg h
abbrev PI150 : Int := 4483830866258026290414848827874327273881010752
/-- The sine's series at the square u. -/
def serR (u : Int) : Nat → Int → Int → Int → Int
  | 0, _, _, s => s
  | f + 1, k, t, s => if t > 0 then serR u f (k + 2) (t * u / 1427247692705959881058285969449495136382746624 / ((k + 1) * (k + 2))) (if k % 4 = 1 then s + t else s - t) else s
def realX (t : Int) : Int := 4483830866258026290414848827874327273881010752 * t / 2147483648
def realU (t : Int) : Int := realX t * realX t / 1427247692705959881058285969449495136382746624
/-- The sine of t, from 0 to a quarter, times 2^150. -/
def realS (t : Int) : Int := serR (realU t) 152 1 (realX t) 0
theorem realX_in {t : Int} (h : 0 ≤ t ∧ t ≤ 1073741824) : 0 ≤ realX t ∧ realX t ≤ 2241915433129013145207424413937163636940505376 := by unfold realX; omega
theorem realU_in {t : Int} (h : 0 ≤ t ∧ t ≤ 1073741824) : 0 ≤ realU t ∧ realU t ≤ 3 * 1427247692705959881058285969449495136382746624 := by
  have hx := realX_in h
  unfold realU
  have h1 := Int.mul_nonneg hx.1 hx.1
  have h2 := Int.mul_le_mul hx.2 hx.2 hx.1 (by decide)
  omega
theorem ser_next {t u k : Int} (ht : 0 ≤ t) (hu : 0 ≤ u ∧ u ≤ 3 * 1427247692705959881058285969449495136382746624) (hk : 1 ≤ k) : 0 ≤ t * u / 1427247692705959881058285969449495136382746624 ∧ t * u / 1427247692705959881058285969449495136382746624 ≤ 3 * t ∧ 0 ≤ t * u / 1427247692705959881058285969449495136382746624 / ((k + 1) * (k + 2)) ∧ t * u / 1427247692705959881058285969449495136382746624 / ((k + 1) * (k + 2)) ≤ t / 2 := by
  have h1 := Int.mul_nonneg ht hu.1
  have h2 := Int.mul_le_mul_of_nonneg_left hu.2 ht
  have h3 : 0 ≤ t * u / 1427247692705959881058285969449495136382746624 ∧ t * u / 1427247692705959881058285969449495136382746624 ≤ 3 * t := by omega
  have h4 : 6 ≤ (k + 1) * (k + 2) := Int.mul_le_mul (show 2 ≤ k + 1 by omega) (show 3 ≤ k + 2 by omega) (by decide) (by omega)
  have h5 : 0 ≤ t * u / 1427247692705959881058285969449495136382746624 / ((k + 1) * (k + 2)) := Int.ediv_nonneg h3.1 (by omega)
  refine ⟨h3.1, h3.2, h5, ?_⟩
  have a1 := Int.ediv_mul_le (t * u / 1427247692705959881058285969449495136382746624) (show (k + 1) * (k + 2) ≠ 0 by omega)
  have a2 := Int.mul_le_mul_of_nonneg_left h4 h5
  omega
theorem ser_in {u x : Int} (hu : 0 ≤ u ∧ u ≤ 3 * 1427247692705959881058285969449495136382746624) : ∀ (f : Nat) (k t s : Int), 1 ≤ k → 0 ≤ t → t ≤ 2 * 1427247692705959881058285969449495136382746624 → s - 2 * 1427247692705959881058285969449495136382746624 * f ≤ serR u f k t s ∧ serR u f k t s ≤ s + 2 * 1427247692705959881058285969449495136382746624 * f
  | 0, k, t, s, _, _, _ => by simp [serR]
  | f + 1, k, t, s, hk, h0, h1 => by
    unfold serR
    split
    · obtain ⟨d1, d2, d3, d4⟩ := ser_next (t := t) (u := u) (k := k) h0 hu hk
      have := ser_in (u := u) (x := x) hu f (k + 2) (t * u / 1427247692705959881058285969449495136382746624 / ((k + 1) * (k + 2))) (if k % 4 = 1 then s + t else s - t) (by omega) d3 (by omega)
      by_cases hk4 : k % 4 = 1
      · rw [if_pos hk4] at this ⊢; omega
      · rw [if_neg hk4] at this ⊢; omega
    · omega
theorem realS_in {t : Int} (h : 0 ≤ t ∧ t ≤ 1073741824) : -(400 * 1427247692705959881058285969449495136382746624) ≤ realS t ∧ realS t ≤ 400 * 1427247692705959881058285969449495136382746624 := by
  have := ser_in (x := 0) (realU_in h) 152 1 (realX t) 0 (by decide) (realX_in h).1 (by have := realX_in h; omega)
  unfold realS
  omega
def foldR (r : Int) : Int := if r > 1073741824 then 2147483648 - r else r
def realF (b : Int) : Int := if b % 4294967296 > 2147483648 then -realS (foldR (b % 4294967296 - 2147483648)) else realS (foldR (b % 4294967296))
end Go.Proofs.YtciigfeecmnghaaRRRRGreatRR.Sv

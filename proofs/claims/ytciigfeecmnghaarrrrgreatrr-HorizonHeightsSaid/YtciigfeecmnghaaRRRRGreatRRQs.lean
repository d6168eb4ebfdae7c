/- The series of the real sine and of the program's sine, near their polynomials. No condition. -/
import Derived.Test.YtciigfeecmnghaaRRRRGreatRRQr
import Derived.Test.YtciigfeecmnghaaRRRRGreatRRQf
namespace Go.Proofs.YtciigfeecmnghaaRRRRGreatRR.Sv
set_option linter.unusedVariables false
set_option linter.unusedSimpArgs false
set_option maxRecDepth 100000


theorem rfl_div (a b : Int) (hb : 0 < b) : ((a / b : Int) : Rat) * b ≤ a ∧ (a : Rat) - b < ((a / b : Int) : Rat) * b := by
  have h1 := Int.ediv_mul_le a (show b ≠ 0 by omega)
  have h2 := Int.lt_ediv_add_one_mul_self a hb
  constructor
  · rw [← Rat.intCast_mul]; exact Rat.intCast_le_intCast.2 h1
  · have h3 : a - b < a / b * b := by rw [Int.add_mul] at h2; omega
    have h4 : ((a - b : Int) : Rat) < ((a / b * b : Int) : Rat) := Rat.intCast_lt_intCast.2 h3
    rw [Rat.intCast_sub, Rat.intCast_mul] at h4
    exact h4
/-! ### The reference's series -/
def serN (u : Int) : Nat → Int → Int → Int → Int
  | 0, _, _, s => s
  | f + 1, k, t, s => serN u f (k + 2) (t * u / 1427247692705959881058285969449495136382746624 / ((k + 1) * (k + 2))) (if k % 4 = 1 then s + t else s - t)
theorem serN_zero (u : Int) : ∀ (f : Nat) (k s : Int), serN u f k 0 s = s
  | 0, _, _ => rfl
  | f + 1, k, s => by
    unfold serN
    rw [Int.zero_mul, Int.zero_ediv, Int.zero_ediv]
    rw [serN_zero u f]
    split <;> omega
theorem serR_N {u : Int} (hu : 0 ≤ u ∧ u ≤ 3 * 1427247692705959881058285969449495136382746624) : ∀ (f : Nat) (k t s : Int), 1 ≤ k → 0 ≤ t → serR u f k t s = serN u f k t s
  | 0, _, _, _, _, _ => rfl
  | f + 1, k, t, s, hk, ht => by
    unfold serR
    split
    · rw [serN]
      exact serR_N hu f (k + 2) _ _ (by omega) (ser_next ht hu hk).2.2.1
    · obtain rfl : t = 0 := by omega
      rw [serN_zero]
theorem serN_tail {u : Int} (hu : 0 ≤ u ∧ u ≤ 3 * 1427247692705959881058285969449495136382746624) : ∀ (f : Nat) (k t s : Int), 1 ≤ k → 0 ≤ t → s - 2 * t ≤ serN u f k t s ∧ serN u f k t s ≤ s + 2 * t
  | 0, k, t, s, _, ht => by simp only [serN]; omega
  | f + 1, k, t, s, hk, ht => by
    obtain ⟨d1, d2, d3, d4⟩ := ser_next (t := t) (u := u) (k := k) ht hu hk
    have := serN_tail hu f (k + 2) (t * u / 1427247692705959881058285969449495136382746624 / ((k + 1) * (k + 2))) (if k % 4 = 1 then s + t else s - t) (by omega) d3
    unfold serN
    by_cases hk4 : k % 4 = 1
    · rw [if_pos hk4] at this ⊢; omega
    · rw [if_neg hk4] at this ⊢; omega
/-- The exact series from the term y on, at the square v. -/
def serQ (v : Rat) : Nat → Nat → Rat → Rat
  | 0, _, _ => 0
  | n + 1, k, y => (if k % 4 = 1 then y else -y) + serQ v n (k + 2) (y * v / (((k + 1) * (k + 2) : Nat) : Rat))
def lastQ (v : Rat) : Nat → Nat → Rat → Rat
  | 0, _, y => y
  | n + 1, k, y => lastQ v n (k + 2) (y * v / (((k + 1) * (k + 2) : Nat) : Rat))
theorem term_next {t u : Int} {y v : Rat} {k : Nat} (hk : 1 ≤ k) (ht : 0 ≤ t) (hu0 : 0 ≤ u) (hu : (u : Rat) ≤ 1427247692705959881058285969449495136382746624 * v ∧ 1427247692705959881058285969449495136382746624 * v - 1 ≤ u) (hv : 0 ≤ v ∧ v ≤ 5 / 2) (hy : 0 ≤ y ∧ y ≤ 2) (h : (t : Rat) ≤ 1427247692705959881058285969449495136382746624 * y ∧ 1427247692705959881058285969449495136382746624 * y - 6 ≤ t) :
    ((t * u / 1427247692705959881058285969449495136382746624 / (((k : Int) + 1) * (k + 2)) : Int) : Rat) ≤ 1427247692705959881058285969449495136382746624 * (y * v / (((k + 1) * (k + 2) : Nat) : Rat)) ∧ 1427247692705959881058285969449495136382746624 * (y * v / (((k + 1) * (k + 2) : Nat) : Rat)) - 6 ≤ ((t * u / 1427247692705959881058285969449495136382746624 / (((k : Int) + 1) * (k + 2)) : Int) : Rat) ∧
      0 ≤ y * v / (((k + 1) * (k + 2) : Nat) : Rat) ∧ y * v / (((k + 1) * (k + 2) : Nat) : Rat) ≤ 2 := by
  have hc6 : 6 ≤ (k + 1) * (k + 2) := Nat.mul_le_mul (show 2 ≤ k + 1 by omega) (show 3 ≤ k + 2 by omega)
  obtain ⟨c, hc⟩ : ∃ c : Nat, c = (k + 1) * (k + 2) := ⟨_, rfl⟩
  have hci : ((k : Int) + 1) * (k + 2) = (c : Int) := by rw [hc]; simp
  rw [hci, ← hc]
  rw [← hc] at hc6
  have hcq : (6 : Rat) ≤ (c : Rat) := by exact_mod_cast hc6
  have d1 := rfl_div (t * u) 1427247692705959881058285969449495136382746624 (by decide)
  have d2 := rfl_div (t * u / 1427247692705959881058285969449495136382746624) c (by omega)
  rw [Rat.intCast_mul] at d1
  generalize ((t * u / 1427247692705959881058285969449495136382746624 / (c : Int) : Int) : Rat) = z at *
  generalize ((t * u / 1427247692705959881058285969449495136382746624 : Int) : Rat) = w at *
  have ec : (((c : Nat) : Int) : Rat) = (c : Rat) := by first | rfl | exact Rat.intCast_natCast c
  have eB : ((1427247692705959881058285969449495136382746624 : Int) : Rat) = (1427247692705959881058285969449495136382746624 : Rat) := by rfl
  rw [ec] at d2
  rw [eB] at d1
  generalize (c : Rat) = C at *
  have ht' : (0 : Rat) ≤ t := by exact_mod_cast ht
  have hu' : (0 : Rat) ≤ u := by exact_mod_cast hu0
  generalize (t : Rat) = T at *
  generalize (u : Rat) = V at *
  obtain ⟨q, hq⟩ : ∃ q, q = y * v / C := ⟨_, rfl⟩
  rw [← hq]
  have hqC : q * C = y * v := by rw [hq]; grind
  have a1 := Rat.mul_le_mul_of_nonneg_right h.1 hu'
  have a2 := Rat.mul_le_mul_of_nonneg_left hu.1 (show 0 ≤ 1427247692705959881058285969449495136382746624 * y by grind)
  have b1 := Rat.mul_le_mul_of_nonneg_left hu.2 ht'
  have b2 := Rat.mul_le_mul_of_nonneg_right h.2 (show 0 ≤ 1427247692705959881058285969449495136382746624 * v by grind)
  have a3 := Rat.mul_nonneg hy.1 hv.1
  have hC0 : 0 < C := by grind
  have w1 : w ≤ 1427247692705959881058285969449495136382746624 * q * C := Rat.le_of_mul_le_mul_right (c := 1427247692705959881058285969449495136382746624) (by grind) (by decide)
  have w2 : 1427247692705959881058285969449495136382746624 * q * C - 19 ≤ w := Rat.le_of_mul_le_mul_right (c := 1427247692705959881058285969449495136382746624) (by grind) (by decide)
  refine ⟨Rat.le_of_mul_le_mul_right (c := C) (by grind) hC0, Rat.le_of_mul_le_mul_right (c := C) (by grind) hC0, Rat.le_of_mul_le_mul_right (c := C) (by grind) hC0, ?_⟩
  have a4 := Rat.mul_le_mul_of_nonneg_left hv.2 hy.1
  exact Rat.le_of_mul_le_mul_right (c := C) (by grind) hC0
theorem serN_near {u : Int} {v : Rat} (hu0 : 0 ≤ u ∧ u ≤ 3 * 1427247692705959881058285969449495136382746624) (hu : (u : Rat) ≤ 1427247692705959881058285969449495136382746624 * v ∧ 1427247692705959881058285969449495136382746624 * v - 1 ≤ u) (hv : 0 ≤ v ∧ v ≤ 5 / 2) (m : Nat) : ∀ (n k : Nat) (t s : Int) (y : Rat), 1 ≤ k → 0 ≤ t → 0 ≤ y ∧ y ≤ 2 → (t : Rat) ≤ 1427247692705959881058285969449495136382746624 * y ∧ 1427247692705959881058285969449495136382746624 * y - 6 ≤ t →
    (s : Rat) + 1427247692705959881058285969449495136382746624 * serQ v n k y - 6 * (n : Rat) - 2 * (1427247692705959881058285969449495136382746624 * lastQ v n k y) ≤ (serN u (n + m) k t s : Int) ∧ ((serN u (n + m) k t s : Int) : Rat) ≤ s + 1427247692705959881058285969449495136382746624 * serQ v n k y + 6 * (n : Rat) + 2 * (1427247692705959881058285969449495136382746624 * lastQ v n k y)
  | 0, k, t, s, y, hk, ht, hy, h => by
    have h1 := serN_tail hu0 m k t s (by omega) ht
    have h2 : ((s - 2 * t : Int) : Rat) ≤ ((serN u m k t s : Int) : Rat) := Rat.intCast_le_intCast.2 h1.1
    have h3 : ((serN u m k t s : Int) : Rat) ≤ ((s + 2 * t : Int) : Rat) := Rat.intCast_le_intCast.2 h1.2
    rw [Rat.intCast_sub, Rat.intCast_mul] at h2
    rw [Rat.intCast_add, Rat.intCast_mul] at h3
    simp only [Nat.zero_add, serQ, lastQ]
    have e2 : ((2 : Int) : Rat) = 2 := rfl
    rw [e2] at h2 h3
    have e0 : ((0 : Nat) : Rat) = 0 := rfl
    rw [e0]
    constructor <;> grind
  | n + 1, k, t, s, y, hk, ht, hy, h => by
    obtain ⟨d1, d2, d3, d4⟩ := ser_next (t := t) (u := u) (k := k) ht hu0 (by omega)
    obtain ⟨e1, e2, e3, e4⟩ := term_next hk ht hu0.1 hu hv hy h
    have e1' : (((k + 2 : Nat) : Int)) = (k : Int) + 2 := by omega
    have ih := serN_near hu0 hu hv m n (k + 2) (t * u / 1427247692705959881058285969449495136382746624 / (((k : Int) + 1) * (k + 2))) (if (k : Int) % 4 = 1 then s + t else s - t) (y * v / (((k + 1) * (k + 2) : Nat) : Rat)) (by omega) d3 ⟨e3, e4⟩ ⟨e1, e2⟩
    rw [e1'] at ih
    have hs : serN u (n + 1 + m) k t s = serN u (n + m) ((k : Int) + 2) (t * u / 1427247692705959881058285969449495136382746624 / (((k : Int) + 1) * (k + 2))) (if (k : Int) % 4 = 1 then s + t else s - t) := by
      rw [show n + 1 + m = (n + m) + 1 by omega, serN]
    rw [hs]
    simp only [serQ, lastQ]
    have en : ((n + 1 : Nat) : Rat) = (n : Rat) + 1 := by simp
    rw [en]
    generalize lastQ v n (k + 2) (y * v / (((k + 1) * (k + 2) : Nat) : Rat)) = L at *
    generalize serQ v n (k + 2) (y * v / (((k + 1) * (k + 2) : Nat) : Rat)) = Q at *
    by_cases hk4 : k % 4 = 1
    · rw [if_pos hk4]
      have hk4' : (k : Int) % 4 = 1 := by omega
      rw [if_pos hk4'] at ih ⊢
      rw [Rat.intCast_add] at ih
      generalize ((serN u (n + m) ((k : Int) + 2) (t * u / 1427247692705959881058285969449495136382746624 / (((k : Int) + 1) * (k + 2))) (s + t) : Int) : Rat) = Z at *
      constructor <;> grind
    · rw [if_neg hk4]
      have hk4' : ¬ (k : Int) % 4 = 1 := by omega
      rw [if_neg hk4'] at ih ⊢
      rw [Rat.intCast_sub] at ih
      generalize ((serN u (n + m) ((k : Int) + 2) (t * u / 1427247692705959881058285969449495136382746624 / (((k : Int) + 1) * (k + 2))) (s - t) : Int) : Rat) = Z at *
      constructor <;> grind
end Go.Proofs.YtciigfeecmnghaaRRRRGreatRR.Sv

/- Nearest fractions: two neighbours around a number, one of them is the nearest. No condition. -/
import Derived.Test.YtjeafcngljbdlaaWc
namespace Go.Proofs.Ytjeafcngljbdlaa.Sv
set_option linter.unusedVariables false
set_option linter.unusedSimpArgs false

/-- The difference of n/q and N/D, times q and D. -/
def offF (N D n q : Int) : Int := ((n * D - N * q).natAbs : Int)
/-- a/b is the first of the nearest. -/
def Tops (N D most a b : Int) : Prop := 1 ≤ b ∧ b ≤ most ∧ ∀ q n : Int, 1 ≤ q → q ≤ most → offF N D a b * q ≤ offF N D n q * b ∧ (offF N D a b * q = offF N D n q * b → b < q ∨ (q = b ∧ a ≤ n))
theorem pos_split {x y q : Int} (hx : 1 ≤ x) (hq : q = x * y) (h1 : 1 ≤ q) : 1 ≤ y := by
  refine Decidable.byContradiction fun h => ?_
  have := Int.mul_nonneg (show 0 ≤ x by omega) (show 0 ≤ -y by omega)
  rw [Int.mul_neg] at this
  omega
theorem coords {p0 q0 p1 q1 s n q : Int} (hs : s = 1 ∨ s = -1) (h : p1 * q0 - p0 * q1 = s) : ∃ C A : Int, q = q0 * C + q1 * A ∧ n = p0 * C + p1 * A := by
  refine ⟨s * (p1 * q - n * q1), s * (n * q0 - p0 * q), ?_, ?_⟩
  · have e : q0 * (s * (p1 * q - n * q1)) + q1 * (s * (n * q0 - p0 * q)) = s * (p1 * q0 - p0 * q1) * q := by grind
    rw [e, h]
    rcases hs with rfl | rfl <;> omega
  · have e : p0 * (s * (p1 * q - n * q1)) + p1 * (s * (n * q0 - p0 * q)) = s * (p1 * q0 - p0 * q1) * n := by grind
    rw [e, h]
    rcases hs with rfl | rfl <;> omega
theorem off_low {N D p0 q0 p1 q1 s d e C A : Int} (hs : s = 1 ∨ s = -1) (hd : p1 * D - N * q1 = s * d) (he : p0 * D - N * q0 = -(s * e)) (h0d : 0 < d) (h0e : 0 < e) (hC : C ≤ 0) (hA : 0 ≤ A) :
    offF N D (p0 * C + p1 * A) (q0 * C + q1 * A) = d * A + e * (-C) := by
  have e1 : (p0 * C + p1 * A) * D - N * (q0 * C + q1 * A) = C * (p0 * D - N * q0) + A * (p1 * D - N * q1) := by grind
  have m1 := Int.mul_nonneg (show 0 ≤ d by omega) hA
  have m2 := Int.mul_nonneg (show 0 ≤ e by omega) (show 0 ≤ -C by omega)
  have e2 : C * -(s * e) + A * (s * d) = s * (d * A + e * (-C)) := by grind
  unfold offF
  rw [e1, hd, he, e2]
  rcases hs with rfl | rfl <;> omega
theorem off_high {N D p0 q0 p1 q1 s d e C A : Int} (hs : s = 1 ∨ s = -1) (hd : p1 * D - N * q1 = s * d) (he : p0 * D - N * q0 = -(s * e)) (h0d : 0 < d) (h0e : 0 < e) (hC : 0 ≤ C) (hA : A ≤ 0) :
    offF N D (p0 * C + p1 * A) (q0 * C + q1 * A) = d * (-A) + e * C := by
  have e1 : (p0 * C + p1 * A) * D - N * (q0 * C + q1 * A) = C * (p0 * D - N * q0) + A * (p1 * D - N * q1) := by grind
  have m1 := Int.mul_nonneg (show 0 ≤ d by omega) (show 0 ≤ -A by omega)
  have m2 := Int.mul_nonneg (show 0 ≤ e by omega) hC
  have e2 : C * -(s * e) + A * (s * d) = -(s * (d * (-A) + e * C)) := by grind
  unfold offF
  rw [e1, hd, he, e2]
  rcases hs with rfl | rfl <;> omega
theorem tops_of {N D most p0 q0 p1 q1 s d e : Int} (hs : s = 1 ∨ s = -1) (h : p1 * q0 - p0 * q1 = s) (hd : p1 * D - N * q1 = s * d) (he : p0 * D - N * q0 = -(s * e)) (h0d : 0 < d) (h0e : 0 < e)
    (hq0 : 1 ≤ q0 ∧ q0 ≤ most) (hq1 : 1 ≤ q1 ∧ q1 ≤ most) (hm : most < q0 + q1) :
    (d * q0 ≤ e * q1 → (d * q0 = e * q1 → q1 < q0 ∨ (q1 = q0 ∧ p1 < p0)) → Tops N D most p1 q1) ∧ (e * q1 < d * q0 → Tops N D most p0 q0) := by
  have o1 : offF N D p1 q1 = d := by
    have := off_low (C := 0) (A := 1) hs hd he h0d h0e (by decide) (by decide)
    simpa using this
  have o0 : offF N D p0 q0 = e := by
    have := off_high (C := 1) (A := 0) hs hd he h0d h0e (by decide) (by decide)
    simpa using this
  -- where a number n/q lies
  have cs : ∀ q n : Int, 1 ≤ q → q ≤ most → (∃ C A : Int, q = q1 * A - q0 * C ∧ n = p1 * A - p0 * C ∧ 0 ≤ C ∧ 1 ≤ A ∧ offF N D n q = d * A + e * C) ∨ (∃ C A : Int, q = q0 * C - q1 * A ∧ n = p0 * C - p1 * A ∧ 1 ≤ C ∧ 0 ≤ A ∧ offF N D n q = d * A + e * C) := fun q n g1 g2 => by
    obtain ⟨C, A, hq, hn⟩ := coords (q := q) (n := n) hs h
    by_cases hC : C ≤ 0
    · left
      have hA : 1 ≤ A := by
        have := Int.mul_nonneg (show 0 ≤ q0 by omega) (show 0 ≤ -C by omega)
        rw [Int.mul_neg] at this
        exact pos_split hq1.1 rfl (show 1 ≤ q1 * A by omega)
      refine ⟨-C, A, by rw [Int.mul_neg]; omega, by rw [Int.mul_neg]; omega, by omega, hA, ?_⟩
      rw [hq, hn]
      exact off_low hs hd he h0d h0e hC (by omega)
    · right
      have hA : A ≤ 0 := by
        refine Decidable.byContradiction fun g => ?_
        have m1 := Int.mul_le_mul_of_nonneg_left (show 1 ≤ C by omega) (show 0 ≤ q0 by omega)
        have m2 := Int.mul_le_mul_of_nonneg_left (show 1 ≤ A by omega) (show 0 ≤ q1 by omega)
        omega
      refine ⟨C, -A, by rw [Int.mul_neg]; omega, by rw [Int.mul_neg]; omega, by omega, by omega, ?_⟩
      rw [hq, hn]
      exact off_high hs hd he h0d h0e (by omega) hA
  have pdq := Int.mul_pos h0d (show 0 < q0 by omega)
  have peq := Int.mul_pos h0e (show 0 < q1 by omega)
  have peq0 := Int.mul_pos h0e (show 0 < q0 by omega)
  have pdq1 := Int.mul_pos h0d (show 0 < q1 by omega)
  refine ⟨fun hle tie => ⟨hq1.1, hq1.2, fun q n g1 g2 => ?_⟩, fun hlt => ⟨hq0.1, hq0.2, fun q n g1 g2 => ?_⟩⟩
  · rw [o1]
    rcases cs q n g1 g2 with ⟨C, A, rfl, rfl, hC, hA, ho⟩ | ⟨C, A, rfl, rfl, hC, hA, ho⟩
    · rw [ho]
      have e1 : (d * A + e * C) * q1 - d * (q1 * A - q0 * C) = C * (e * q1 + d * q0) := by grind
      have m := Int.mul_nonneg hC (show 0 ≤ e * q1 + d * q0 by omega)
      refine ⟨by omega, fun heq => ?_⟩
      have hz : C * (e * q1 + d * q0) = 0 := by omega
      rcases Int.mul_eq_zero.1 hz with rfl | hz
      · by_cases hA1 : A = 1
        · subst hA1; right; simp
        · left
          have := Int.mul_le_mul_of_nonneg_left (show 2 ≤ A by omega) (show 0 ≤ q1 by omega)
          omega
      · omega
    · rw [ho]
      have e1 : (d * A + e * C) * q1 - d * (q0 * C - q1 * A) = C * (e * q1 - d * q0) + 2 * (A * (d * q1)) := by grind
      have m := Int.mul_nonneg (show 0 ≤ C by omega) (show 0 ≤ e * q1 - d * q0 by omega)
      have m2 := Int.mul_nonneg hA (show 0 ≤ d * q1 by omega)
      refine ⟨by omega, fun heq => ?_⟩
      have z1 : C * (e * q1 - d * q0) = 0 := by omega
      have z2 : A * (d * q1) = 0 := by omega
      have hA0 : A = 0 := by rcases Int.mul_eq_zero.1 z2 with h | h <;> omega
      have ht : d * q0 = e * q1 := by rcases Int.mul_eq_zero.1 z1 with h | h <;> omega
      subst hA0
      have m3 := Int.mul_le_mul_of_nonneg_left hC (show 0 ≤ q0 by omega)
      rcases tie ht with g | ⟨g, g'⟩
      · left; omega
      · by_cases hC1 : C = 1
        · subst hC1; right; omega
        · left
          have := Int.mul_le_mul_of_nonneg_left (show 2 ≤ C by omega) (show 0 ≤ q0 by omega)
          omega
  · rw [o0]
    rcases cs q n g1 g2 with ⟨C, A, rfl, rfl, hC, hA, ho⟩ | ⟨C, A, rfl, rfl, hC, hA, ho⟩
    · rw [ho]
      have e1 : (d * A + e * C) * q0 - e * (q1 * A - q0 * C) = A * (d * q0 - e * q1) + 2 * (C * (e * q0)) := by grind
      have m := Int.mul_pos (show 0 < A by omega) (show 0 < d * q0 - e * q1 by omega)
      have m2 := Int.mul_nonneg hC (show 0 ≤ e * q0 by omega)
      exact ⟨by omega, fun heq => by omega⟩
    · rw [ho]
      have e1 : (d * A + e * C) * q0 - e * (q0 * C - q1 * A) = A * (d * q0 + e * q1) := by grind
      have m := Int.mul_nonneg hA (show 0 ≤ d * q0 + e * q1 by omega)
      refine ⟨by omega, fun heq => ?_⟩
      have hz : A * (d * q0 + e * q1) = 0 := by omega
      rcases Int.mul_eq_zero.1 hz with rfl | hz
      · by_cases hC1 : C = 1
        · subst hC1; right; simp
        · left
          have := Int.mul_le_mul_of_nonneg_left (show 2 ≤ C by omega) (show 0 ≤ q0 by omega)
          omega
      · omega
/-! ### The search -/
/-- What holds once the numbers ahead of (q, n) are looked at. -/
def SeenI (N D a b : Int) (seen : Prop) (best : Int × Int) (aw un : Int) : Prop :=
  (seen → best = (a, b) ∧ aw = offF N D a b ∧ un = b) ∧ (¬seen → un = 0 ∨ (1 ≤ un ∧ offF N D a b * un < aw * b))
theorem seen_step {N D most a b : Int} (hT : Tops N D most a b) {q n p : Int} (hq : 1 ≤ q ∧ q ≤ most) (hp : b = q → p ≤ a) {best best' : Int × Int} {aw un : Int}
    (hI : SeenI N D a b (b < q ∨ (b = q ∧ a < n)) best aw un) (h0 : un = 0 → q = 1 ∧ n = p) (hpn : p ≤ n) (hb : q = b → n = a → best' = (a, b)) :
    ((q = 1 ∧ n = p ∨ offF N D n q * un < aw * q) → SeenI N D a b (b < q ∨ (b = q ∧ a < n + 1)) best' (offF N D n q) q) ∧
    (¬(q = 1 ∧ n = p ∨ offF N D n q * un < aw * q) → SeenI N D a b (b < q ∨ (b = q ∧ a < n + 1)) best aw un) := by
  obtain ⟨t1, t2, t3⟩ := hT
  obtain ⟨c1, c2⟩ := t3 q n hq.1 hq.2
  obtain ⟨i1, i2⟩ := hI
  by_cases hs : b < q ∨ (b = q ∧ a < n)
  · obtain ⟨rfl, rfl, rfl⟩ := i1 hs
    refine ⟨fun hU => ?_, fun hU => ⟨fun _ => ⟨rfl, rfl, rfl⟩, fun g => absurd (by omega) g⟩⟩
    rcases hU with ⟨g1, g2⟩ | g
    · omega
    · omega
  · by_cases he : q = b ∧ n = a
    · obtain ⟨rfl, rfl⟩ := he
      refine ⟨fun hU => ⟨fun _ => ⟨hb rfl rfl, rfl, rfl⟩, fun g => absurd (by omega) g⟩, fun hU => ?_⟩
      rcases i2 hs with g | g
      · exact absurd (.inl (h0 g)) hU
      · exact absurd (.inr g.2) hU
    · have hs' : ¬(b < q ∨ (b = q ∧ a < n + 1)) := by omega
      refine ⟨fun hU => ⟨fun g => absurd g hs', fun _ => .inr ⟨hq.1, ?_⟩⟩, fun hU => ⟨fun g => absurd g hs', fun _ => i2 hs⟩⟩
      have : offF N D a b * q ≠ offF N D n q * b := fun g => by have := c2 g; omega
      omega
/-! ### The steps of the continued fraction -/
/-- What holds of the numbers p, q and of the rest n/d. -/
def ConvI (N D most p0 p1 q0 q1 n d : Int) : Prop :=
  ∃ s : Int, (s = 1 ∨ s = -1) ∧ p1 * q0 - p0 * q1 = s ∧ p1 * D - N * q1 = s * d ∧ p0 * D - N * q0 = -(s * n) ∧ 0 < d ∧ 0 < q1 ∧ 0 ≤ q0 ∧ q0 ≤ q1 ∧ q1 ≤ most ∧ d < n ∧ n ≤ D ∧ (q0 = 0 → p0 = 1 ∧ q1 = 1) ∧ (q0 ≠ 0 → n < D)
end Go.Proofs.Ytjeafcngljbdlaa.Sv

/- The steps of a continued fraction: the plain law. No condition. -/
import Derived.Test.YtjeafcngljbdlaaFa
namespace Go.Proofs.Ytjeafcngljbdlaa.Sv
set_option linter.unusedVariables false
set_option linter.unusedSimpArgs false

theorem conv_bd {x D q N e : Int} (h : x * D = N * q + e) (he : -D ≤ e ∧ e ≤ D) (hN : -1152921504606846976 ≤ N ∧ N ≤ 1152921504606846976) (hq : 0 ≤ q ∧ q ≤ D - 1) : -1152921504606846976 ≤ x ∧ x ≤ 1152921504606846976 := by
  have m1 := Int.mul_le_mul_of_nonneg_right hN.1 hq.1
  have m2 := Int.mul_le_mul_of_nonneg_right hN.2 hq.1
  constructor
  · refine Decidable.byContradiction fun g => ?_
    have := Int.mul_le_mul_of_nonneg_right (show x ≤ -1152921504606846977 by omega) (show 0 ≤ D by omega)
    omega
  · refine Decidable.byContradiction fun g => ?_
    have := Int.mul_le_mul_of_nonneg_right (show 1152921504606846977 ≤ x by omega) (show 0 ≤ D by omega)
    omega
/-- A number with a smaller denominator is not the number. -/
theorem den_ne {N D p q : Int} (hg : (Int.gcd N D : Int) = 1) (hq : 1 ≤ q ∧ q < D) : p * D - N * q ≠ 0 := fun h => by
  have hd : D ∣ N * q := ⟨p, by rw [Int.mul_comm D p]; omega⟩
  have hc : Int.gcd D N = 1 := by rw [Int.gcd_comm]; omega
  have := Int.dvd_gcd_mul_iff_dvd_mul.2 hd
  rw [hc] at this
  simp only [Int.natCast_one, Int.one_mul] at this
  have := Int.le_of_dvd (by omega) this
  omega
theorem conv_first {N D most : Int} (hg : (Int.gcd N D : Int) = 1) (hm : 1 ≤ most ∧ most < D) : ConvI N D most 1 (N / D) 0 1 D (N - N / D * D) := by
  have h0 := den_ne (p := N / D) hg ⟨Int.le_refl 1, by omega⟩
  have h1 := Int.ediv_mul_le N (show D ≠ 0 by omega)
  have h2 := Int.lt_ediv_add_one_mul_self N (show 0 < D by omega)
  rw [Int.add_mul] at h2
  exact ⟨-1, .inr rfl, by omega, by omega, by omega, by omega, by decide, by decide, by decide, hm.1, by omega, Int.le_refl _, fun _ => ⟨rfl, rfl⟩, fun h => absurd rfl h⟩
theorem conv_step {N D most p0 p1 q0 q1 n d : Int} (hg : (Int.gcd N D : Int) = 1) (hm : 1 ≤ most ∧ most < D) (h : ConvI N D most p0 p1 q0 q1 n d) (ht : ¬ n / d > (most - q0) / q1) :
    ConvI N D most p1 (p0 + n / d * p1) q1 (q0 + n / d * q1) d (n - n / d * d) := by
  obtain ⟨s, hs, a1, a2, a3, a4, a5, a6, a7, a8, a9, a10, a11, a12⟩ := h
  have b1 := Int.ediv_mul_le n (show d ≠ 0 by omega)
  have b2 := Int.lt_ediv_add_one_mul_self n a4
  have b3 : 1 ≤ n / d := (Int.le_ediv_iff_mul_le a4).2 (by omega)
  rw [Int.add_mul] at b2
  generalize n / d = t at *
  have c1 := (Int.le_ediv_iff_mul_le a5).1 (show t ≤ (most - q0) / q1 by omega)
  have c2 := Int.mul_le_mul_of_nonneg_right b3 (show 0 ≤ q1 by omega)
  have e1 : (p0 + t * p1) * q1 - p1 * (q0 + t * q1) = -(p1 * q0 - p0 * q1) := by grind
  have e2 : (p0 + t * p1) * D - N * (q0 + t * q1) = (p0 * D - N * q0) + t * (p1 * D - N * q1) := by grind
  have e3 : -(s * n) + t * (s * d) = -s * (n - t * d) := by grind
  have hd : 0 < n - t * d := by
    have := den_ne (p := p0 + t * p1) (q := q0 + t * q1) hg ⟨by omega, by omega⟩
    rw [e2, a2, a3, e3] at this
    have h0 : n - t * d ≠ 0 := fun h => this (by rw [h, Int.mul_zero])
    omega
  refine ⟨-s, by omega, by rw [e1, a1], by rw [e2, a2, a3, e3], by rw [a2, Int.neg_mul, Int.neg_neg], hd, by omega, by omega, by omega, by omega, by omega, by omega, fun h => by omega, fun _ => by omega⟩
theorem gcd_det {p q p' q' s : Int} (hs : s = 1 ∨ s = -1) (h : p * q' - p' * q = s) : (Int.gcd p q : Int) = 1 := by
  have h1 : (Int.gcd p q : Int) ∣ p * q' - p' * q := Int.dvd_sub (Int.dvd_trans (Int.gcd_dvd_left ..) (Int.dvd_mul_right ..)) (Int.dvd_trans (Int.gcd_dvd_right ..) (Int.dvd_mul_left ..))
  rw [h] at h1
  have h2 : (Int.gcd p q : Int) ∣ 1 := by rcases hs with rfl | rfl; exact h1; exact (Int.dvd_neg.1 h1)
  have := Int.le_of_dvd (by decide) h2
  have h3 : Int.gcd p q ≠ 0 := fun h => by rw [h] at h2; simp at h2
  omega
theorem conv_end {N D most p0 p1 q0 q1 n d k p q e : Int} (hN : -1152921504606846976 ≤ N ∧ N ≤ 1152921504606846976) (hm : 1 ≤ most ∧ most < D) (h : ConvI N D most p0 p1 q0 q1 n d) (hk : k = (most - q0) / q1) (ht : n / d > k)
    (hp : p = p0 + k * p1) (hq : q = q0 + k * q1) (he : e = n - k * d) :
    1 ≤ q ∧ q ≤ most ∧ 1 ≤ q1 ∧ q1 ≤ most ∧ offF N D p q = e ∧ offF N D p1 q1 = d ∧ 0 < e ∧ e ≤ D ∧ 0 < d ∧ d < D ∧ (-1152921504606846976 ≤ p ∧ p ≤ 1152921504606846976) ∧ (-1152921504606846976 ≤ p1 ∧ p1 ≤ 1152921504606846976) ∧
      (Int.gcd p q : Int) = 1 ∧ (Int.gcd p1 q1 : Int) = 1 ∧ (d * q ≤ e * q1 → Tops N D most p1 q1) ∧ (e * q1 < d * q → Tops N D most p q) ∧ 0 ≤ k ∧ k ≤ most ∧ e < D := by
  obtain ⟨s, hs, a1, a2, a3, a4, a5, a6, a7, a8, a9, a10, a11, a12⟩ := h
  have b1 := Int.ediv_mul_le n (show d ≠ 0 by omega)
  have k0 : 0 ≤ k := by rw [hk]; exact Int.ediv_nonneg (by omega) (by omega)
  have k1 := Int.ediv_mul_le (most - q0) (show q1 ≠ 0 by omega)
  have k2 := Int.lt_ediv_add_one_mul_self (most - q0) a5
  rw [← hk, Int.add_mul] at k2
  rw [← hk] at k1
  have c1 := Int.mul_le_mul_of_nonneg_right (show k + 1 ≤ n / d by omega) (show 0 ≤ d by omega)
  rw [Int.add_mul] at c1
  have c2 := Int.mul_nonneg k0 (show 0 ≤ d by omega)
  have c3 := Int.mul_nonneg k0 (show 0 ≤ q1 by omega)
  have c4 := Int.mul_le_mul_of_nonneg_left (show 1 ≤ q1 by omega) k0
  have e1 : p1 * q - p * q1 = p1 * q0 - p0 * q1 := by rw [hp, hq]; grind
  have e2 : p * D - N * q = (p0 * D - N * q0) + k * (p1 * D - N * q1) := by rw [hp, hq]; grind
  have e3 : -(s * n) + k * (s * d) = -(s * e) := by rw [he]; grind
  rw [a1] at e1
  rw [a2, a3, e3] at e2
  have hq1 : 1 ≤ q := by
    by_cases g : q0 = 0
    · obtain ⟨_, g2⟩ := a11 g
      subst g2
      omega
    · omega
  have he0 : 0 < e := by omega
  have hT := tops_of (most := most) hs e1 a2 e2 a4 he0 ⟨hq1, by omega⟩ ⟨by omega, a8⟩ (by omega)
  have o1 : offF N D p1 q1 = d := by unfold offF; rw [a2]; rcases hs with rfl | rfl <;> omega
  have o0 : offF N D p q = e := by unfold offF; rw [e2]; rcases hs with rfl | rfl <;> omega
  have v1 : p1 * D = N * q1 + s * d := by omega
  have v0 : p * D = N * q + -(s * e) := by omega
  refine ⟨hq1, by omega, by omega, a8, o0, o1, he0, by omega, a4, by omega, conv_bd v0 (by rcases hs with rfl | rfl <;> omega) hN ⟨by omega, by omega⟩, conv_bd v1 (by rcases hs with rfl | rfl <;> omega) hN ⟨by omega, by omega⟩, ?_, gcd_det hs e1, ?_, hT.2, k0, by omega, ?_⟩
  · exact gcd_det (s := -s) (p' := p1) (q' := q1) (by omega) (by rw [Int.mul_comm p q1] at e1; rw [← e1]; have := Int.mul_comm p q1; omega)
  · refine fun hle => hT.1 hle fun ht' => ?_
    have m := Int.mul_le_mul_of_nonneg_right (show d ≤ e by omega) (show 0 ≤ q1 by omega)
    have hqq : q1 ≤ q := by
      refine Decidable.byContradiction fun g => ?_
      have := Int.mul_lt_mul_of_pos_left (show q < q1 by omega) a4
      omega
    by_cases g : q1 = q
    · right
      refine ⟨g, ?_⟩
      rw [← g] at e1 ht'
      have f1 : q1 * (p1 - p) = s := by rw [← e1]; grind
      have f2 : q1 = 1 := by
        have : q1 ∣ s := ⟨p1 - p, f1.symm⟩
        have h2 : q1 ∣ 1 := by rcases hs with rfl | rfl; exact this; exact (Int.dvd_neg.1 this)
        have := Int.le_of_dvd (by decide) h2
        omega
      subst f2
      have f3 : d = e := by omega
      have f4 : k ≠ 0 := fun hk0 => by rw [hk0] at he; omega
      have f5 : q0 = 0 := by omega
      have f6 := (a11 f5).1
      have f7 : k = 1 := by omega
      rw [hp, f6, f7]; omega
    · left; omega
  · by_cases g : q0 = 0
    · obtain ⟨_, g2⟩ := a11 g
      subst g2
      have : 1 ≤ k := by omega
      have := Int.mul_le_mul_of_nonneg_right this (show 0 ≤ d by omega)
      omega
    · have := a12 g
      omega
theorem conv_in {N D most p0 p1 q0 q1 n d : Int} (hN : -1152921504606846976 ≤ N ∧ N ≤ 1152921504606846976) (hm : 1 ≤ most ∧ most < D) (h : ConvI N D most p0 p1 q0 q1 n d) : (-1152921504606846976 ≤ p0 ∧ p0 ≤ 1152921504606846976) ∧ (-1152921504606846976 ≤ p1 ∧ p1 ≤ 1152921504606846976) := by
  obtain ⟨s, hs, a1, a2, a3, a4, a5, a6, a7, a8, a9, a10, a11, a12⟩ := h
  exact ⟨conv_bd (D := D) (q := q0) (e := -(s * n)) (by omega) (by rcases hs with rfl | rfl <;> omega) hN ⟨by omega, by omega⟩, conv_bd (D := D) (q := q1) (e := s * d) (by omega) (by rcases hs with rfl | rfl <;> omega) hN ⟨by omega, by omega⟩⟩
theorem tops_unique {N D most a b a' b' : Int} (h : Tops N D most a b) (h' : Tops N D most a' b') : a = a' ∧ b = b' := by
  obtain ⟨h1, h2, h3⟩ := h
  obtain ⟨g1, g2, g3⟩ := h'
  have i := h3 b' a' g1 g2
  have j := g3 b a h1 h2
  have i2 := i.2 (by omega)
  have j2 := j.2 (by omega)
  omega
def Good (N D most a b : Int) : Prop := Tops N D most a b ∧ (-1152921504606846976 ≤ a ∧ a ≤ 1152921504606846976) ∧ (Int.gcd a b : Int) = 1 ∧ offF N D a b < D
theorem good_ex {N D most : Int} (hg : (Int.gcd N D : Int) = 1) (hN : -1152921504606846976 ≤ N ∧ N ≤ 1152921504606846976) (hm : 1 ≤ most ∧ most < D) : ∃ a b, Good N D most a b := by
  have main : ∀ (m : Nat) (p0 p1 q0 q1 n d : Int), ConvI N D most p0 p1 q0 q1 n d → d.toNat < m → ∃ a b, Good N D most a b := by
    intro m
    induction m with
    | zero => intro p0 p1 q0 q1 n d _ h; omega
    | succ m ih =>
      intro p0 p1 q0 q1 n d h hd
      by_cases ht : n / d > (most - q0) / q1
      · obtain ⟨b1, b2, b3, b4, b5, b6, b7, b8, b9, b10, b11, b12, b13, b14, b15, b16, b17, b18, b19⟩ := conv_end hN hm h rfl ht rfl rfl rfl
        by_cases hle : d * (q0 + (most - q0) / q1 * q1) ≤ (n - (most - q0) / q1 * d) * q1
        · exact ⟨_, _, b15 hle, b12, b14, by omega⟩
        · exact ⟨_, _, b16 (by omega), b11, b13, by omega⟩
      · have h' := conv_step hg hm h ht
        refine ih _ _ _ _ _ _ h' ?_
        obtain ⟨s, hs, a1, a2, a3, a4, a5, a6, a7, a8, a9, a10, a11⟩ := h'
        omega
  exact main _ _ _ _ _ _ _ (conv_first hg hm) (Nat.lt_succ_self _)
end Go.Proofs.Ytjeafcngljbdlaa.Sv
